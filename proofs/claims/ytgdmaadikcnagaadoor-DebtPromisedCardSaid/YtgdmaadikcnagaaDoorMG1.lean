/- Merged texts: GxCore, GxOps, GxMem, GxMem2, GxEqS, GxEnd, GxOps2, GxDraw, GxOps3, GxObs, GxMap, GxPerm, GxJ, GxJ3, GxKeep, GxRow. -/
import Derived.WalkKit
import Derived.Deep.Quiet
import Derived.Deep.LoopGhost
import Derived.Deep.RegionHeld3
import Derived.Sort.LoopGhostIn
import Derived.TacticsIn
import Derived.Scope
import Derived.Deep.AppendLies
import Derived.Maps.AppendAt
import Derived.Laws.CopyRow
import Derived.Laws.StructEq
import Derived.OrdersHeld
import Derived.StillTail
import Derived.Lib.SliceRun
import Derived.Laws.OwnMore
import Derived.ProofKit
import Derived.OpenShut
import Derived.ShutString
import Derived.ChangeOld
import Derived.Below
import Derived.SizedLaws
import Derived.Deep.Slices
/-
  Frames as functions from slots to values, and the rules of the walk over them: every step is one lemma, applied by 'refine'; no simp.
-/
namespace Go.Gx
set_option linter.unusedVariables false
open Go Go.RowKit

def upd (σ : Nat → Value) (d : Nat) (v : Value) (t : Nat) : Value := bif Nat.beq t d then v else σ t
def cut (n : Nat) (σ : Nat → Value) (t : Nat) : Value := bif Nat.ble (t + 1) n then σ t else undef
def updO (σ : Nat → Value) : Option Nat → Value → Nat → Value
  | some d, v => upd σ d v
  | none, _ => σ
def opv (ρ : Nat → Value) : Operand → Value
  | .tmp t => ρ t
  | .const v => v
  | .global g => .pointer (some ⟨g, 0, none⟩)
  | .func f => .func (.func f) #[] #[]
def Fr (n : Nat) (σ : Nat → Value) : Act := { tmps := Array.ofFn (n := n) (fun i => σ i.val), defers := [] }

theorem upd_same (σ : Nat → Value) (d : Nat) (v : Value) : upd σ d v d = v := by simp [upd]
theorem upd_other (σ : Nat → Value) {d t : Nat} (v : Value) (h : t ≠ d) : upd σ d v t = σ t := by
  have : Nat.beq t d = false := by cases hb : Nat.beq t d; rfl; exact absurd (Nat.eq_of_beq_eq_true hb) h
  simp [upd, this]
theorem upd_self {σ : Nat → Value} {d : Nat} {v : Value} (h : σ d = v) : upd σ d v = σ := by
  funext t
  by_cases e : t = d
  · subst e; rw [upd_same, h]
  · rw [upd_other _ _ e]

theorem cut_lt {n : Nat} {σ : Nat → Value} {t : Nat} (h : t < n) : cut n σ t = σ t := by
  have : Nat.ble (t + 1) n = true := Nat.ble_eq ▸ h
  simp [cut, this]
theorem cut_ge {n : Nat} {σ : Nat → Value} {t : Nat} (h : ¬ t < n) : cut n σ t = undef := by
  have : Nat.ble (t + 1) n = false := by cases hb : Nat.ble (t + 1) n; rfl; exact absurd (Nat.le_of_ble_eq_true hb) h
  simp [cut, this]

theorem Fr_get (n : Nat) (σ : Nat → Value) (t : Nat) : (Fr n σ).tmps[t]? = if t < n then some (σ t) else none := by
  simp only [Fr, Array.getElem?_ofFn]
  split <;> simp_all

theorem Fr_eval (n : Nat) (σ : Nat → Value) : (Fr n σ).eval = opv (cut n σ) := by
  funext x
  cases x with
  | tmp t =>
    show (Fr n σ).tmps.getD t undef = cut n σ t
    rw [Array.getD_eq_getD_getElem?, Fr_get]
    by_cases h : t < n
    · rw [if_pos h, cut_lt h]; rfl
    · rw [if_neg h, cut_ge h]; rfl
  | const v => rfl
  | global g => rfl
  | func f => rfl

theorem Fr_put (n : Nat) (σ : Nat → Value) (d : Option Nat) (v : Value) : (Fr n σ).put d v = Fr n (updO σ d v) := by
  cases d with
  | none => rfl
  | some d =>
    simp only [Act.put, updO]
    unfold Fr
    congr 1
    apply Array.ext_getElem?
    intro i
    rw [Array.getElem?_setIfInBounds, Array.getElem?_ofFn, Array.getElem?_ofFn]
    simp only [Array.size_ofFn]
    by_cases hi : i < n
    · by_cases e : d = i
      · subst e; simp [hi, upd_same]
      · simp [e, hi, upd_other _ _ (Ne.symm e)]
    · by_cases e : d = i
      · subst e; simp [hi]
      · simp [e, hi]

/-- What an operation's guard reads. -/
def yS (ops : Array Oper) (n : Nat) (σ : Nat → Value) (j : Nat) : Option Bool :=
  match (ops[j]?).bind (·.dst) with
  | some d => match cut n σ d with
    | .bool b => some b
    | _ => none
  | none => none

theorem yielded_eq (ops : Array Oper) (n : Nat) (σ : Nat → Value) : yielded ops (Fr n σ).tmps = yS ops n σ := by
  funext j
  unfold yielded yS
  cases h : (ops[j]?).bind (·.dst) with
  | none => rfl
  | some d =>
    simp only [Option.bind_some, Fr_get]
    by_cases hd : d < n
    · rw [if_pos hd, cut_lt hd]
      cases σ d <;> rfl
    · rw [if_neg hd, cut_ge hd]; rfl

def wantS (o : Oper) (ops : Array Oper) (n : Nat) (σ : Nat → Value) : Bool := Region.wanted o (yS ops n σ)

abbrev Post := Exit → (Nat → Value) → World → Prop
def lift (n : Nat) (Q : Post) : Exit → Act → World → Prop := fun e a w => ∃ σ', a = Fr n σ' ∧ Q e σ' w

/-- A call of a range's own yield: what stands behind it. -/
def rnd (P : Program) (o : Oper) (a : Act) (w : World) (next : Act → World → Prop) : Prop := ∃ l f tmps assign body w', (execOp a.eval o).run P w = .ok (.round l f tmps assign body) w' ∧
  RoundIn Fence.wide 0 P l f tmps assign body w' fun e w'' => ∃ v, e = .returned v ∧ next (a.put o.dst v) w''
/-- What one operation comes to: what the kit's walk says of it, or a round of a range. -/
def Oper.sp (P : Program) (o : Oper) (a : Act) (w : World) (next : Act → World → Prop) (Q : Exit → Act → World → Prop) : Prop := (o.wp P a w next Q ∨ (o.asks P a w ∧ LetsOut Q)) ∨ rnd P o a w next
def sOp (P : Program) (ops : Array Oper) (Q : Exit → Act → World → Prop) (i : Nat) (K : Act → World → Prop) (a : Act) (w : World) : Prop :=
  match ops[i]? with
  | none => K a w
  | some o => if Region.wanted o (yielded ops a.tmps) = true then Oper.sp P o a w K Q else K (a.put o.dst undef) w
def sOps (P : Program) (ops : Array Oper) (Q : Exit → Act → World → Prop) : List Nat → Act → World → Prop
  | [], a, w => Q .normal a w
  | i :: rest, a, w => sOp P ops Q i (sOps P ops Q rest) a w
def sList (P : Program) (ops : Array Oper) (Q : Exit → Act → World → Prop) : List Oper → Act → World → Prop
  | [], a, w => Q .normal a w
  | o :: rest, a, w => if Region.wanted o (yielded ops a.tmps) = true then Oper.sp P o a w (sList P ops Q rest) Q else sList P ops Q rest (a.put o.dst undef) w
theorem sOps_eq_sList {P : Program} {ops : Array Oper} {Q : Exit → Act → World → Prop} (l : List Oper) : ∀ k, (∀ j, l[j]? = ops[k + j]?) → sOps P ops Q (List.range' k l.length) = sList P ops Q l := by
  induction l with
  | nil => intro k _; funext a w; simp [sOps, sList]
  | cons o l ih =>
    intro k h
    have h0 : ops[k]? = some o := by simpa using (h 0).symm
    have ih' := ih (k + 1) (fun j => by have := h (j + 1); simpa [Nat.add_assoc, Nat.add_comm 1 j] using this)
    funext a w
    simp only [List.length_cons, List.range'_succ, sOps, sOp, h0, sList, ih']
/-- A list of operations, in order. -/
structure wl (P : Program) (n : Nat) (ops : Array Oper) (Q : Post) (l : List Oper) (σ : Nat → Value) (w : World) : Prop where mk :: (out : sList P ops (lift n Q) l (Fr n σ) w)

/-- Code, walked along its structure: it serves a frame with deferred calls, and a round of a range over a function, too. -/
def sw (P : Program) : Code → (Exit → Act → World → Prop) → Act → World → Prop
  | .region _ ops draw, Q, a, w => if draw then ∀ t, sOps P ops Q (Region.schedule (P.follows .mixedOrders) ops t) a { w with drawn := w.drawn + 1 } else sOps P ops Q (List.range ops.size) a w
  | .seq x y, Q, a, w => sw P x (Exit.then (sw P y Q) Q) a w
  | .cond c x y, Q, a, w => ∃ b, a.eval c = .bool b ∧ (b = true → sw P x Q a w) ∧ (b = false → sw P y Q a w)
  | .block id c, Q, a, w => sw P c (Exit.inBlock id Q) a w
  | .loop c, Q, a, w => ∃ (I : Nat → Act → World → Prop) (k0 : Nat), I k0 a w ∧ ∀ k a w, I k a w → sw P c (Exit.then (fun a' w' => ∃ k', k' < k ∧ I k' a' w') Q) a w
  | .skip, Q, a, w => Q .normal a w
  | .exit id, Q, a, w => Q (.exit id) a w
  | .ret, Q, a, w => Q .ret a w
  | .label _, Q, a, w => Q .normal a w
  | .scope c, Q, a, w => sw P c (Exit.noGoto Q) a w
  | _, _, _, _ => False
theorem sOps_of {P : Program} {ops : Array Oper} {Q : Exit → Act → World → Prop} : ∀ {l : List Nat} {a : Act} {w : World}, wpOps P ops Q l a w → sOps P ops Q l a w
  | [], _, _, h => h
  | i :: rest, a, w, h => by
    unfold wpOps at h
    unfold sOps sOp
    cases ho : ops[i]? with
    | none => simp only [ho] at h ⊢; exact sOps_of h
    | some o =>
      simp only [ho] at h ⊢
      split
      · rename_i hw
        rw [if_pos hw] at h
        exact .inl (h.imp (Oper.wp_mono fun _ _ h => sOps_of h) id)
      · rename_i hw
        rw [if_neg hw] at h
        exact sOps_of h
theorem LetsOut.imp {Q Q' : Exit → Act → World → Prop} (hq : ∀ e a w, Q e a w → Q' e a w) (h : LetsOut Q) : LetsOut Q' := let ⟨a, w, h⟩ := h; ⟨a, w, hq _ _ _ h⟩
theorem wp_mono3 {P : Program} {o : Oper} {a : Act} {w : World} {K K' : Act → World → Prop} {Q Q' : Exit → Act → World → Prop} (hp : ∀ c a w, Q (.panic c) a w → Q' (.panic c) a w) (ho : LetsOut Q → LetsOut Q') (hk : ∀ a w, K a w → K' a w) (h : o.wp P a w K Q) : o.wp P a w K' Q' := by
  unfold Oper.wp at *
  generalize (execOp a.eval o).run P w = r at *
  cases r with
  | ok x w' =>
    cases x <;> simp only [Oper.upon] at h ⊢ <;> first | exact hk _ _ h | exact h.elim | skip
    · exact Calls.mono h fun e w'' h => by
        cases e with
        | returned v => exact hk _ _ h
        | panicked c => exact hp _ _ _ h
        | outgrown => exact ho h
    · exact Rows.mono h fun v w'' h => hk _ _ h
  | halt x w' => cases x <;> simp only [Oper.upon] at h ⊢ <;> first | exact hp _ _ _ h | exact h.elim
theorem wp_mono2 {P : Program} {o : Oper} {a : Act} {w : World} {K K' : Act → World → Prop} {Q Q' : Exit → Act → World → Prop} (hq : ∀ e a w, Q e a w → Q' e a w) (hk : ∀ a w, K a w → K' a w) (h : o.wp P a w K Q) : o.wp P a w K' Q' :=
  wp_mono3 (fun _ => hq _) (LetsOut.imp hq) hk h
theorem rnd_mono {P : Program} {o : Oper} {a : Act} {w : World} {K K' : Act → World → Prop} (hk : ∀ a w, K a w → K' a w) (h : rnd P o a w K) : rnd P o a w K' := by
  obtain ⟨l, f, tmps, as, b, w', h1, h2⟩ := h
  exact ⟨l, f, tmps, as, b, w', h1, h2.mono fun e w'' ⟨v, he, h⟩ => ⟨v, he, hk _ _ h⟩⟩
theorem sp_mono {P : Program} {o : Oper} {a : Act} {w : World} {K K' : Act → World → Prop} {Q Q' : Exit → Act → World → Prop} (hq : ∀ e a w, Q e a w → Q' e a w) (hk : ∀ a w, K a w → K' a w) (h : Oper.sp P o a w K Q) : Oper.sp P o a w K' Q' :=
  h.imp (fun h => h.imp (wp_mono2 hq hk) fun h => ⟨h.1, LetsOut.imp hq h.2⟩) (rnd_mono hk)
theorem sOp_mono2 {P : Program} {ops : Array Oper} {i : Nat} {a : Act} {w : World} {K K' : Act → World → Prop} {Q Q' : Exit → Act → World → Prop} (hq : ∀ e a w, Q e a w → Q' e a w) (hk : ∀ a w, K a w → K' a w) (h : sOp P ops Q i K a w) : sOp P ops Q' i K' a w := by
  unfold sOp at *
  cases ho : ops[i]? with
  | none => simp only [ho] at h ⊢; exact hk _ _ h
  | some o =>
    simp only [ho] at h ⊢
    split
    · rename_i hw
      rw [if_pos hw] at h
      exact sp_mono hq hk h
    · rename_i hw
      rw [if_neg hw] at h
      exact hk _ _ h
theorem sOp_mono {P : Program} {ops : Array Oper} {i : Nat} {a : Act} {w : World} {K K' : Act → World → Prop} {Q : Exit → Act → World → Prop} (hk : ∀ a w, K a w → K' a w) (h : sOp P ops Q i K a w) : sOp P ops Q i K' a w := sOp_mono2 (fun _ _ _ h => h) hk h
theorem sOps_mono {P : Program} {ops : Array Oper} {Q Q' : Exit → Act → World → Prop} (hq : ∀ e a w, Q e a w → Q' e a w) : ∀ {l : List Nat} {a : Act} {w : World}, sOps P ops Q l a w → sOps P ops Q' l a w
  | [], _, _, h => hq _ _ _ h
  | i :: rest, a, w, h => sOp_mono2 hq (fun _ _ h => sOps_mono hq h) h
theorem then_mono {K K' : Act → World → Prop} {Q Q' : Exit → Act → World → Prop} (hk : ∀ a w, K a w → K' a w) (hq : ∀ e a w, Q e a w → Q' e a w) : ∀ e a w, Exit.then K Q e a w → Exit.then K' Q' e a w := by
  intro e a w h
  cases e <;> first | exact hk _ _ h | exact hq _ _ _ h
theorem inBlock_mono {id : Nat} {Q Q' : Exit → Act → World → Prop} (hq : ∀ e a w, Q e a w → Q' e a w) : ∀ e a w, Exit.inBlock id Q e a w → Exit.inBlock id Q' e a w := by
  intro e a w h
  cases e with
  | exit id' =>
    have h' : if id' = id then Q .normal a w else Q (.exit id') a w := h
    show if id' = id then Q' .normal a w else Q' (.exit id') a w
    by_cases z : id' = id
    · rw [if_pos z] at h' ⊢; exact hq _ _ _ h'
    · rw [if_neg z] at h' ⊢; exact hq _ _ _ h'
  | normal => exact hq _ _ _ h
  | goto l => exact hq _ _ _ h
  | ret => exact hq _ _ _ h
  | panic c => exact hq _ _ _ h
  | outgrown => exact hq _ _ _ h
theorem noGoto_mono {Q Q' : Exit → Act → World → Prop} (hq : ∀ e a w, Q e a w → Q' e a w) : ∀ e a w, Exit.noGoto Q e a w → Exit.noGoto Q' e a w := by
  intro e a w h
  cases e <;> first | exact h.elim | exact hq _ _ _ h
theorem wpIn_scope {F : Fence} {n : Nat} {P : Program} {c : Code} {Q : Exit → Act → World → Prop} {a : Act} {w : World} (h : c.wpIn F n P (Exit.noGoto Q) a w) : (Code.scope c).wpIn F n P Q a w := by
  intro b k cs hro hb hr
  have h0 : (lone (b.atR a (.code (.scope c) :: k)) cs w).fenced P F := fenced_calm hb hr rfl
  have s0 : step P (lone (b.atR a (.code (.scope c) :: k)) cs w) = .next (lone (b.atR a (.code c :: .inScope c :: k)) cs w) := step_lone_go (by simp [stepG, stepG.exec, Frame.atR])
  obtain ⟨e, a₁, w₁, hq, harr⟩ := h b (.inScope c :: k) cs hro hb hr
  cases e with
  | normal => exact ⟨.normal, a₁, w₁, hq, .head h0 s0 (StepsIn.trans harr (.one (fenced_calm hb hr rfl) (step_lone_go (by simp [stepG, stepG.exec, Frame.atR]))))⟩
  | exit id' =>
    have hx : exitTo id' (.inScope c :: k) = exitTo id' k := by simp [exitTo]
    exact ⟨.exit id', a₁, w₁, hq, fun k' hk => .head h0 s0 (harr.1 k' (by rw [hx]; exact hk)),
      fun hr' hk => let ⟨k₁, h1, h2⟩ := harr.2 hr' (by rw [hx]; exact hk); ⟨k₁, h1, .head h0 s0 h2⟩⟩
  | goto l => exact hq.elim
  | ret => exact ⟨_, a₁, w₁, hq, .of_steps (.one h0 s0) harr⟩
  | panic ch => exact ⟨_, a₁, w₁, hq, .of_steps (.one h0 s0) harr⟩
  | outgrown => exact ⟨_, a₁, w₁, hq, .of_steps (.one h0 s0) harr⟩
theorem sw_mono {P : Program} : ∀ {c : Code} {Q Q' : Exit → Act → World → Prop} {a : Act} {w : World}, (∀ e a w, Q e a w → Q' e a w) → sw P c Q a w → sw P c Q' a w
  | .region _ ops draw, Q, Q', a, w, hq, h => by
    unfold sw at *
    split
    · rename_i hd; rw [if_pos hd] at h; exact fun t => sOps_mono hq (h t)
    · rename_i hd; rw [if_neg hd] at h; exact sOps_mono hq h
  | .seq x y, Q, Q', a, w, hq, h => by
    unfold sw at *
    exact sw_mono (then_mono (fun _ _ h => sw_mono hq h) hq) h
  | .cond c x y, Q, Q', a, w, hq, h => by
    unfold sw at *
    obtain ⟨b, hb, h1, h2⟩ := h
    exact ⟨b, hb, fun e => sw_mono hq (h1 e), fun e => sw_mono hq (h2 e)⟩
  | .block id c, Q, Q', a, w, hq, h => by
    unfold sw at *
    exact sw_mono (inBlock_mono hq) h
  | .loop c, Q, Q', a, w, hq, h => by
    unfold sw at *
    obtain ⟨I, k0, h0, h⟩ := h
    exact ⟨I, k0, h0, fun k a w hi => sw_mono (then_mono (fun _ _ h => h) hq) (h k a w hi)⟩
  | .skip, Q, Q', a, w, hq, h => by unfold sw at *; exact hq _ _ _ h
  | .exit id, Q, Q', a, w, hq, h => by unfold sw at *; exact hq _ _ _ h
  | .ret, Q, Q', a, w, hq, h => by unfold sw at *; exact hq _ _ _ h
  | .rangeFunc .., _, _, _, _, _, h => by unfold sw at h; exact h.elim
  | .scope c, Q, Q', a, w, hq, h => by unfold sw at *; exact sw_mono (noGoto_mono hq) h
  | .label _, Q, Q', a, w, hq, h => by unfold sw at *; exact hq _ _ _ h
  | .goto .., _, _, _, _, _, h => by unfold sw at h; exact h.elim
  | .refuse .., _, _, _, _, _, h => by unfold sw at h; exact h.elim

/-! Inside a fence that is wide, in a round or outside, with deferred calls. -/
def widR (r : Option Nat) : Fence := { Fence.wide with round := r }
def actD (D : List Deferred) (a : Act) : Act := { a with defers := a.defers ++ D }
def postD (D : List Deferred) (Q : Exit → Act → World → Prop) (e : Exit) (a : Act) (w : World) : Prop := ∃ b, a = actD D b ∧ Q e b w
theorem actD_eval (D : List Deferred) (a : Act) : (actD D a).eval = a.eval := by funext x; cases x <;> rfl
theorem actD_put (D : List Deferred) (a : Act) (d : Option Tmp) (v : Value) : (actD D a).put d v = actD D (a.put d v) := by cases d <;> rfl
def noDefer : Code → Bool
  | .region _ ops _ => ops.toList.all fun o => match o.op with | .defer _ => false | _ => true
  | .seq a b => noDefer a && noDefer b
  | .cond _ a b => noDefer a && noDefer b
  | .block _ c => noDefer c
  | .loop c => noDefer c
  | .scope c => noDefer c
  | _ => true
def calmOp (o : Oper) : Bool := match o.op with | .defer _ => false | _ => true
theorem semAt_plain {r : Option Nat} {ρ : Operand → Value} {o : Oper} (h : r = none ∨ calmOp o = true) : Oper.semAt r ρ o = execOp ρ o := by
  cases r with
  | none => exact Oper.semAt_none ρ o
  | some l => exact Oper.semAt_some l ρ o fun c e => by rcases h with h | h; cases h; unfold calmOp at h; rw [e] at h; cases h
theorem callsIn_widR {r : Option Nat} {m : Nat} {P : Program} {f : FuncId} {args : Array Value} {w : World} {R : Ending → World → Prop} (h : Calls P f args w R) : CallsIn (widR r) m P f args w R :=
  let z : CallsIn Fence.wide m P f args w R := callsIn_wide.2 h
  z
theorem roundIn_widR {r : Option Nat} {m : Nat} {P : Program} {l f : Nat} {tmps : Array Value} {as b : Code} {w : World} {R : Ending → World → Prop} (h : RoundIn Fence.wide 0 P l f tmps as b w R) : RoundIn (widR r) m P l f tmps as b w R :=
  ⟨trivial, fun c cs hr => h.2 c cs (room_wide _)⟩
theorem rowsIn_widR {r : Option Nat} {m : Nat} {P : Program} {row : String} {args : Array Value} {w : World} {R : Value → World → Prop} (h : Rows P row args w R) : RowsIn (widR r) m P row args w R :=
  fun c cs _ => let ⟨v, w', hr, hs⟩ := h c cs; ⟨v, w', hr, stepsIn_wide.2 hs⟩
theorem uponIn_widR {P : Program} {r : Option Nat} {m : Nat} {D : List Deferred} {o : Oper} {a : Act} {K : Act → World → Prop} {K' : Act → World → Prop} {Q : Exit → Act → World → Prop} {x : Result Next} (hQ : ¬ LetsOut Q) (hk : ∀ a w, K a w → K' (actD D a) w)
    (h : o.upon P a K Q x) : o.uponIn (widR r) m P (actD D a) K' (postD D Q) x := by
  cases x with
  | ok x w' =>
    cases x <;> simp only [Oper.upon, Oper.uponIn] at h ⊢ <;> first
      | (rw [actD_put]; exact hk _ _ h)
      | exact h.elim
      | (have := hk _ _ h
         rw [← actD_put] at this
         exact this)
      | (refine ⟨(fun h => nomatch h), callsIn_widR (Calls.mono h fun e w'' h => ?_)⟩
         cases e with
         | returned v => show K' ((actD D a).put o.dst v) w''; rw [actD_put]; exact hk _ _ h
         | panicked c => exact ⟨a, rfl, h⟩
         | outgrown => exact absurd h hQ)
      | exact ⟨(fun h => nomatch h), rowsIn_widR (Rows.mono h fun v w'' h => by rw [actD_put]; exact hk _ _ h)⟩
  | halt x w' => cases x <;> simp only [Oper.upon, Oper.uponIn] at h ⊢ <;> first | exact ⟨a, rfl, h⟩ | exact h.elim
theorem sOps_in {P : Program} {r : Option Nat} {m : Nat} {D : List Deferred} {ops : Array Oper} {Q : Exit → Act → World → Prop} (hQ : ¬ LetsOut Q) (hn : r = none ∨ (ops.toList.all fun o => match o.op with | .defer _ => false | _ => true) = true) :
    ∀ {l : List Nat} {a : Act} {w : World}, sOps P ops Q l a w → wpOpsIn (widR r) m P ops (postD D Q) l (actD D a) w
  | [], a, _, h => ⟨a, rfl, h⟩
  | i :: rest, a, w, h => by
    unfold sOps sOp at h
    unfold wpOpsIn
    cases ho : ops[i]? with
    | none => simp only [ho] at h ⊢; exact sOps_in hQ hn h
    | some o =>
      simp only [ho] at h ⊢
      have hd : r = none ∨ calmOp o = true := hn.imp id fun hn => by
        rw [List.all_eq_true] at hn
        exact hn o (by have := Array.mem_of_getElem? ho; simpa using this)
      have ht : (actD D a).tmps = a.tmps := rfl
      rw [ht]
      split
      · rename_i hw
        rw [if_pos hw] at h
        refine ⟨fun _ _ => trivial, ?_⟩
        show Oper.uponIn (widR r) m P o (actD D a) _ _ (Sem.run P (Oper.semAt r (actD D a).eval o) w)
        rw [semAt_plain hd, actD_eval]
        rcases h with (h | h) | h
        · exact uponIn_widR hQ (fun a w h => sOps_in hQ hn h) h
        · exact absurd h.2 hQ
        · obtain ⟨l, f, tmps, as, b, w', h1, h2⟩ := h
          rw [h1]
          refine ⟨(fun h => nomatch h), roundIn_widR (h2.mono fun e w'' ⟨v, he, hk⟩ => ?_)⟩
          subst he
          show wpOpsIn _ _ _ _ _ _ ((actD D a).put o.dst v) w''
          rw [actD_put]; exact sOps_in hQ hn hk
      · rename_i hw
        rw [if_neg hw] at h
        exact ⟨fun _ _ => trivial, by rw [actD_put]; exact sOps_in hQ hn h⟩
theorem sw_in {P : Program} {r : Option Nat} {m : Nat} {D : List Deferred} : ∀ {c : Code} {Q : Exit → Act → World → Prop} {a : Act} {w : World}, (r = none ∨ noDefer c = true) → ¬ LetsOut Q → sw P c Q a w → c.wpIn (widR r) m P (postD D Q) (actD D a) w
  | .region _ ops draw, Q, a, w, hn, hQ, h => by
    unfold sw at h
    cases draw with
    | true => rw [if_pos rfl] at h; exact wpIn_region_draw fun t => sOps_in hQ hn (h t)
    | false => rw [if_neg (by decide)] at h; exact wpIn_region (sOps_in hQ hn h)
  | .seq x y, Q, a, w, hn, hQ, h => by
    unfold sw at h
    have hn1 : r = none ∨ noDefer x = true := hn.imp id fun h => by unfold noDefer at h; rw [Bool.and_eq_true] at h; exact h.1
    have hn2 : r = none ∨ noDefer y = true := hn.imp id fun h => by unfold noDefer at h; rw [Bool.and_eq_true] at h; exact h.2
    refine wpIn_seq (wpIn_mono (sw_in (m := m) (Q := Exit.then (sw P y Q) Q) hn1 (fun ⟨a, w, h⟩ => hQ ⟨a, w, h⟩) h) fun e a' w' ⟨b, hb, hq⟩ => ?_)
    subst hb
    cases e with
    | normal => exact sw_in (m := m) hn2 hQ hq
    | exit id => exact ⟨b, rfl, hq⟩
    | goto l => exact ⟨b, rfl, hq⟩
    | ret => exact ⟨b, rfl, hq⟩
    | panic c => exact ⟨b, rfl, hq⟩
    | outgrown => exact ⟨b, rfl, hq⟩
  | .cond c x y, Q, a, w, hn, hQ, h => by
    unfold sw at h
    have hn1 : r = none ∨ noDefer x = true := hn.imp id fun h => by unfold noDefer at h; rw [Bool.and_eq_true] at h; exact h.1
    have hn2 : r = none ∨ noDefer y = true := hn.imp id fun h => by unfold noDefer at h; rw [Bool.and_eq_true] at h; exact h.2
    obtain ⟨b, hb, h1, h2⟩ := h
    exact wpIn_cond_split (t := b) (by rw [actD_eval]; exact hb) (fun e => sw_in hn1 hQ (h1 e)) (fun e => sw_in hn2 hQ (h2 e))
  | .block id c, Q, a, w, hn, hQ, h => by
    unfold sw at h
    refine wpIn_block (wpIn_mono (sw_in (m := m) (Q := Exit.inBlock id Q) hn (fun ⟨a, w, h⟩ => hQ ⟨a, w, h⟩) h) fun e a' w' ⟨b, hb, hq⟩ => ?_)
    subst hb
    cases e with
    | exit id' =>
      show if id' = id then postD D Q .normal (actD D b) w' else postD D Q (.exit id') (actD D b) w'
      have hq' : if id' = id then Q .normal b w' else Q (.exit id') b w' := hq
      split <;> rename_i e
      · rw [if_pos e] at hq'; exact ⟨b, rfl, hq'⟩
      · rw [if_neg e] at hq'; exact ⟨b, rfl, hq'⟩
    | normal => exact ⟨b, rfl, hq⟩
    | goto l => exact ⟨b, rfl, hq⟩
    | ret => exact ⟨b, rfl, hq⟩
    | panic c => exact ⟨b, rfl, hq⟩
    | outgrown => exact ⟨b, rfl, hq⟩
  | .loop c, Q, a, w, hn, hQ, h => by
    unfold sw at h
    obtain ⟨I, k0, h0, h⟩ := h
    refine wpIn_loop_ghost (fun k a w => ∃ b, a = actD D b ∧ I k b w) k0 ⟨a, rfl, h0⟩ ?_
    rintro k a w ⟨b, rfl, hi⟩
    refine wpIn_mono (sw_in (m := m) (Q := Exit.then (fun a' w' => ∃ k', k' < k ∧ I k' a' w') Q) hn (fun ⟨a, w, h⟩ => hQ ⟨a, w, h⟩) (h k b w hi)) fun e a' w' ⟨b', hb, hq⟩ => ?_
    subst hb
    cases e with
    | normal => obtain ⟨k', hk, hi'⟩ := hq; exact ⟨k', hk, b', rfl, hi'⟩
    | exit id => exact ⟨b', rfl, hq⟩
    | goto l => exact ⟨b', rfl, hq⟩
    | ret => exact ⟨b', rfl, hq⟩
    | panic c => exact ⟨b', rfl, hq⟩
    | outgrown => exact ⟨b', rfl, hq⟩
  | .skip, Q, a, w, hn, hQ, h => by unfold sw at h; exact wpIn_skip ⟨a, rfl, h⟩
  | .exit id, Q, a, w, hn, hQ, h => by unfold sw at h; exact wpIn_exit ⟨a, rfl, h⟩
  | .ret, Q, a, w, hn, hQ, h => by unfold sw at h; exact wpIn_ret ⟨a, rfl, h⟩
  | .rangeFunc .., _, _, _, _, _, h => by unfold sw at h; exact h.elim
  | .scope c, Q, a, w, hn, hQ, h => by
    unfold sw at h
    refine wpIn_scope (wpIn_mono (sw_in (m := m) (Q := Exit.noGoto Q) hn (fun ⟨a, w, h⟩ => hQ ⟨a, w, h⟩) h) fun e a' w' ⟨b, hb, hq⟩ => ?_)
    subst hb
    cases e with
    | goto l => exact hq.elim
    | normal => exact ⟨b, rfl, hq⟩
    | exit id => exact ⟨b, rfl, hq⟩
    | ret => exact ⟨b, rfl, hq⟩
    | panic c => exact ⟨b, rfl, hq⟩
    | outgrown => exact ⟨b, rfl, hq⟩
  | .label _, Q, a, w, hn, hQ, h => by unfold sw at h; exact wpIn_label ⟨a, rfl, h⟩
  | .goto .., _, _, _, _, _, h => by unfold sw at h; exact h.elim
  | .refuse .., _, _, _, _, _, h => by unfold sw at h; exact h.elim
theorem actD_nil (a : Act) : actD [] a = a := by cases a; simp [actD]

structure WP (P : Program) (n : Nat) (c : Code) (Q : Post) (σ : Nat → Value) (w : World) : Prop where mk :: (out : sw P c (lift n Q) (Fr n σ) w)
/-- What one operation comes to. -/
structure Runs (P : Program) (ρ : Operand → Value) (o : Oper) (w : World) (r : Result Next) : Prop where mk :: (out : (execOp ρ o).run P w = r)

section
variable {P : Program} {n : Nat} {ops : Array Oper} {Q : Post} {σ : Nat → Value} {w w' : World} {o : Oper} {rest : List Oper} {v : Value}

theorem wl_nil (h : Q .normal σ w) : wl P n ops Q [] σ w := ⟨⟨σ, rfl, h⟩⟩

theorem st_val (hw : wantS o ops n σ = true) (hrun : Runs P (opv (cut n σ)) o w (.ok (.value v) w'))
    (k : wl P n ops Q rest (updO σ o.dst v) w') : wl P n ops Q (o :: rest) σ w := by
  refine ⟨?_⟩
  unfold sList
  rw [if_pos (by rw [yielded_eq]; exact hw)]
  left
  left
  unfold Oper.wp
  rw [Fr_eval, hrun.out, Oper.upon_value, Fr_put]
  exact k.out

/-- A slot takes another slot's value: told once. -/
def mv (σ : Nat → Value) (n : Nat) (d : Nat) (x : Operand) (t : Nat) : Value := bif Nat.beq t d then opv (cut n σ) x else σ t
theorem st_move {d : Nat} {x : Operand} {ty : TypeId} {pos : String} {af : Array Edge} {g : Option (Nat × Bool)} (hw : wantS ⟨some d, .move x, ty, pos, af, g⟩ ops n σ = true)
    (k : wl P n ops Q rest (mv σ n d x) w) : wl P n ops Q (⟨some d, .move x, ty, pos, af, g⟩ :: rest) σ w := st_val (v := opv (cut n σ) x) hw ⟨rfl⟩ k
theorem st_assign {d : Nat} {x : Operand} {ty : TypeId} {pos : String} {af : Array Edge} {g : Option (Nat × Bool)} (hw : wantS ⟨some d, .assign x, ty, pos, af, g⟩ ops n σ = true)
    (k : wl P n ops Q rest (mv σ n d x) w) : wl P n ops Q (⟨some d, .assign x, ty, pos, af, g⟩ :: rest) σ w := st_val (v := opv (cut n σ) x) hw ⟨rfl⟩ k
theorem st_pickT {d : Nat} {c a b : Operand} {ty : TypeId} {pos : String} {af : Array Edge} {g : Option (Nat × Bool)} (hw : wantS ⟨some d, .pick c a b, ty, pos, af, g⟩ ops n σ = true) (hc : opv (cut n σ) c = .bool true)
    (k : wl P n ops Q rest (mv σ n d a) w) : wl P n ops Q (⟨some d, .pick c a b, ty, pos, af, g⟩ :: rest) σ w := st_val (v := opv (cut n σ) a) hw ⟨by simp [execOp, hc, asBool, pure, bind, Sem.bind]⟩ k
theorem st_pickF {d : Nat} {c a b : Operand} {ty : TypeId} {pos : String} {af : Array Edge} {g : Option (Nat × Bool)} (hw : wantS ⟨some d, .pick c a b, ty, pos, af, g⟩ ops n σ = true) (hc : opv (cut n σ) c = .bool false)
    (k : wl P n ops Q rest (mv σ n d b) w) : wl P n ops Q (⟨some d, .pick c a b, ty, pos, af, g⟩ :: rest) σ w := st_val (v := opv (cut n σ) b) hw ⟨by simp [execOp, hc, asBool, pure, bind, Sem.bind]⟩ k

theorem st_skip (hw : wantS o ops n σ = true) (hrun : Runs P (opv (cut n σ)) o w (.ok .skip w'))
    (k : wl P n ops Q rest (updO σ o.dst undef) w') : wl P n ops Q (o :: rest) σ w := by
  refine ⟨?_⟩
  unfold sList
  rw [if_pos (by rw [yielded_eq]; exact hw)]
  left
  left
  unfold Oper.wp
  rw [Fr_eval, hrun.out, Oper.upon_skip, Fr_put]
  exact k.out

theorem st_off (hw : wantS o ops n σ = false) (k : wl P n ops Q rest (updO σ o.dst undef) w) : wl P n ops Q (o :: rest) σ w := by
  refine ⟨?_⟩
  unfold sList
  rw [if_neg (by rw [yielded_eq]; exact fun h => by rw [show Region.wanted o (yS ops n σ) = wantS o ops n σ from rfl, hw] at h; cases h), Fr_put]
  exact k.out

theorem st_enter {f : FuncId} {args : Array Value} {R : Ending → World → Prop} (hw : wantS o ops n σ = true) (hrun : Runs P (opv (cut n σ)) o w (.ok (.enter f args) w'))
    (hc : Calls P f args w' R) (k : ∀ e w1, R e w1 → ∃ v, e = .returned v ∧ wl P n ops Q rest (updO σ o.dst v) w1) : wl P n ops Q (o :: rest) σ w := by
  refine ⟨?_⟩
  unfold sList
  rw [if_pos (by rw [yielded_eq]; exact hw)]
  left
  left
  unfold Oper.wp
  rw [Fr_eval, hrun.out, Oper.upon_enter]
  refine hc.mono fun e w1 hR => ?_
  obtain ⟨v, rfl, hk⟩ := k e w1 hR
  show sList P ops (lift n Q) rest ((Fr n σ).put o.dst v) w1
  rw [Fr_put]
  exact hk.out

theorem cut_bool {n : Nat} {σ : Nat → Value} {s : Nat} {b : Bool} (h : cut n σ s = .bool b) : σ s = .bool b := by
  by_cases hs : s < n
  · rwa [cut_lt hs] at h
  · rw [cut_ge hs] at h; cases h
/-- Two ways: a test's value, told in its slot. -/
theorem wl_split {s j : Nat} {want b : Bool} {d : Option Tmp} {op : Op} {ty : TypeId} {pos : String} {af : Array Edge} (hd : (ops[j]?).bind (·.dst) = some s) (hv : cut n σ s = .bool b)
    (h1 : b = true → wl P n ops Q (⟨d, op, ty, pos, af, some (j, want)⟩ :: rest) (upd σ s (.bool true)) w) (h2 : b = false → wl P n ops Q (⟨d, op, ty, pos, af, some (j, want)⟩ :: rest) (upd σ s (.bool false)) w) : wl P n ops Q (⟨d, op, ty, pos, af, some (j, want)⟩ :: rest) σ w := by
  have h := cut_bool hv
  cases b
  · have := h2 rfl; rwa [upd_self h] at this
  · have := h1 rfl; rwa [upd_self h] at this
/-- A call under a contract that names the value. -/
structure CallsV (P : Program) (f : FuncId) (args : Array Value) (w : World) (v : Value) : Prop where mk :: (out : Calls P f args w fun e w' => e = .returned v ∧ Below w.heap.size w w')

theorem st_callV {f : FuncId} {args : Array Value} (hw : wantS o ops n σ = true) (hrun : Runs P (opv (cut n σ)) o w (.ok (.enter f args) w))
    (hc : CallsV P f args w v) (k : ∀ w1, Below w.heap.size w w1 → wl P n ops Q rest (updO σ o.dst v) w1) : wl P n ops Q (o :: rest) σ w :=
  st_enter hw hrun hc.out fun _ w1 ⟨he, hb⟩ => ⟨v, he, k w1 hb⟩

/-! ### Regions -/
theorem WP_region {id : Nat} {l : List Oper} (h : wl P n l.toArray Q l σ w) : WP P n (.region id l.toArray false) Q σ w := ⟨by
  unfold sw
  rw [if_neg (by decide)]
  rw [List.range_eq_range', ← Array.length_toList, sOps_eq_sList l.toArray.toList 0 (by simp)]
  simpa using h.out⟩

/-- A region that draws its order: one walk in the text's order; each operation in every world that has grown out of the region's first one. -/
def quietG (P : Program) (o : Oper) (a : Act) (w : World) (v : Value) : Prop :=
  match (execOp a.eval o).run P w with
  | .ok (.value u) w' => w' = w ∧ u = v
  | .ok .skip w' => w' = w ∧ v = undef
  | .ok (.enter f args) w' => w' = w ∧ Calls P f args w fun e w'' => e = .returned v ∧ Below w.heap.size w w''
  | _ => False
def wpQ (P : Program) (ops : Array Oper) (C : World) (K : Act → Prop) : List Oper → Act → Prop
  | [], a => K a
  | o :: rest, a => if Region.wanted o (yielded ops a.tmps) = true then ∃ v, (∀ w, Below C.heap.size C w → quietG P o a w v) ∧ wpQ P ops C K rest (a.put o.dst v) else wpQ P ops C K rest (a.put o.dst undef)
structure ql (P : Program) (n : Nat) (ops : Array Oper) (C : World) (K : (Nat → Value) → Prop) (l : List Oper) (σ : Nat → Value) : Prop where mk :: (out : wpQ P ops C (fun a => ∃ σ', a = Fr n σ' ∧ K σ') l (Fr n σ))
variable {C : World} {K : (Nat → Value) → Prop}

theorem ql_nil (h : K σ) : ql P n ops C K [] σ := ⟨⟨σ, rfl, h⟩⟩

theorem q_val (hw : wantS o ops n σ = true) (hrun : ∀ w', Below C.heap.size C w' → Runs P (opv (cut n σ)) o w' (.ok (.value v) w'))
    (k : ql P n ops C K rest (updO σ o.dst v)) : ql P n ops C K (o :: rest) σ := by
  refine ⟨?_⟩
  unfold wpQ
  rw [if_pos (by rw [yielded_eq]; exact hw)]
  refine ⟨v, fun w' hC => ?_, by rw [Fr_put]; exact k.out⟩
  unfold quietG
  rw [Fr_eval, (hrun w' hC).out]
  exact ⟨rfl, rfl⟩

theorem q_move {d : Nat} {x : Operand} {ty : TypeId} {pos : String} {af : Array Edge} {g : Option (Nat × Bool)} (hw : wantS ⟨some d, .move x, ty, pos, af, g⟩ ops n σ = true)
    (k : ql P n ops C K rest (mv σ n d x)) : ql P n ops C K (⟨some d, .move x, ty, pos, af, g⟩ :: rest) σ := q_val (v := opv (cut n σ) x) hw (fun _ _ => ⟨rfl⟩) k
theorem q_assign {d : Nat} {x : Operand} {ty : TypeId} {pos : String} {af : Array Edge} {g : Option (Nat × Bool)} (hw : wantS ⟨some d, .assign x, ty, pos, af, g⟩ ops n σ = true)
    (k : ql P n ops C K rest (mv σ n d x)) : ql P n ops C K (⟨some d, .assign x, ty, pos, af, g⟩ :: rest) σ := q_val (v := opv (cut n σ) x) hw (fun _ _ => ⟨rfl⟩) k
theorem q_pickT {d : Nat} {c a b : Operand} {ty : TypeId} {pos : String} {af : Array Edge} {g : Option (Nat × Bool)} (hw : wantS ⟨some d, .pick c a b, ty, pos, af, g⟩ ops n σ = true) (hc : opv (cut n σ) c = .bool true)
    (k : ql P n ops C K rest (mv σ n d a)) : ql P n ops C K (⟨some d, .pick c a b, ty, pos, af, g⟩ :: rest) σ := q_val (v := opv (cut n σ) a) hw (fun _ _ => ⟨by simp [execOp, hc, asBool, pure, bind, Sem.bind]⟩) k
theorem q_pickF {d : Nat} {c a b : Operand} {ty : TypeId} {pos : String} {af : Array Edge} {g : Option (Nat × Bool)} (hw : wantS ⟨some d, .pick c a b, ty, pos, af, g⟩ ops n σ = true) (hc : opv (cut n σ) c = .bool false)
    (k : ql P n ops C K rest (mv σ n d b)) : ql P n ops C K (⟨some d, .pick c a b, ty, pos, af, g⟩ :: rest) σ := q_val (v := opv (cut n σ) b) hw (fun _ _ => ⟨by simp [execOp, hc, asBool, pure, bind, Sem.bind]⟩) k

theorem q_off (hw : wantS o ops n σ = false) (k : ql P n ops C K rest (updO σ o.dst undef)) : ql P n ops C K (o :: rest) σ := by
  refine ⟨?_⟩
  unfold wpQ
  rw [if_neg (by rw [yielded_eq]; exact fun h => by rw [show Region.wanted o (yS ops n σ) = wantS o ops n σ from rfl, hw] at h; cases h), Fr_put]
  exact k.out

theorem ql_split {s j : Nat} {want b : Bool} {d : Option Tmp} {op : Op} {ty : TypeId} {pos : String} {af : Array Edge} (hd : (ops[j]?).bind (·.dst) = some s) (hv : cut n σ s = .bool b)
    (h1 : b = true → ql P n ops C K (⟨d, op, ty, pos, af, some (j, want)⟩ :: rest) (upd σ s (.bool true))) (h2 : b = false → ql P n ops C K (⟨d, op, ty, pos, af, some (j, want)⟩ :: rest) (upd σ s (.bool false))) : ql P n ops C K (⟨d, op, ty, pos, af, some (j, want)⟩ :: rest) σ := by
  have h := cut_bool hv
  cases b
  · have := h2 rfl; rwa [upd_self h] at this
  · have := h1 rfl; rwa [upd_self h] at this
theorem q_callV {f : FuncId} {args : Array Value} (hw : wantS o ops n σ = true) (hrun : ∀ w', Below C.heap.size C w' → Runs P (opv (cut n σ)) o w' (.ok (.enter f args) w'))
    (hc : ∀ w', Below C.heap.size C w' → CallsV P f args w' v) (k : ql P n ops C K rest (updO σ o.dst v)) : ql P n ops C K (o :: rest) σ := by
  refine ⟨?_⟩
  unfold wpQ
  rw [if_pos (by rw [yielded_eq]; exact hw)]
  refine ⟨v, fun w' hC => ?_, by rw [Fr_put]; exact k.out⟩
  unfold quietG
  rw [Fr_eval, (hrun w' hC).out]
  exact ⟨rfl, (hc w' hC).out⟩

theorem sched_any {P : Program} {ops : Array Oper} {Q : Exit → Act → World → Prop} {a : Act} {w : World} (hm : P.follows .mixedOrders = true) (h : wpAny P .any ops Q ops.size (Array.replicate ops.size false) a w) (t : Nat) : wpOps P ops Q (Region.schedule (P.follows .mixedOrders) ops t) a w := by
  simp only [Region.schedule, hm, Bool.true_or, if_true]
  exact wpAny_sound ops.size t _ a _ h
/-- Any order. -/
def sAny (P : Program) (md : Region.Mode) (ops : Array Oper) (Q : Exit → Act → World → Prop) : Nat → Array Bool → Act → World → Prop
  | 0, listed, a, w => Region.ready md ops listed = [] ∧ Q .normal a w
  | fuel + 1, listed, a, w =>
    (Region.ready md ops listed = [] → Q .normal a w) ∧
    ∀ i ∈ Region.ready md ops listed, sOp P ops Q i (sAny P md ops Q fuel (listed.setIfInBounds i true)) a w
theorem sAny_sound {P : Program} {md : Region.Mode} {ops : Array Oper} {Q : Exit → Act → World → Prop} : ∀ (fuel t : Nat) (listed : Array Bool) (a : Act) (w : World), sAny P md ops Q fuel listed a w → sOps P ops Q (Region.linearise.go md ops fuel t listed []) a w
  | 0, t, listed, a, w, h => by simpa [Region.linearise.go, sOps] using h.2
  | fuel + 1, t, listed, a, w, h => by
    have hgo : Region.linearise.go md ops (fuel + 1) t listed [] = match (Region.ready md ops listed)[t % (Region.ready md ops listed).length]? with
      | some i => Region.linearise.go md ops fuel (t / (Region.ready md ops listed).length) (listed.setIfInBounds i true) [i]
      | none => [] := rfl
    rw [hgo]
    cases hi : (Region.ready md ops listed)[t % (Region.ready md ops listed).length]? with
    | none =>
      have hnil : Region.ready md ops listed = [] := by
        by_cases hr : Region.ready md ops listed = []
        · exact hr
        · have hp : 0 < (Region.ready md ops listed).length := List.length_pos_iff.2 hr
          rw [List.getElem?_eq_getElem (Nat.mod_lt _ hp)] at hi
          cases hi
      exact h.1 hnil
    | some i =>
      have hmem := List.mem_of_getElem? hi
      have := sOp_mono (fun a w h => sAny_sound fuel (t / (Region.ready md ops listed).length) _ a w h) (h.2 i hmem)
      show sOps P ops Q (Region.linearise.go md ops fuel _ _ [i]) a w
      rw [linearise_go_acc, List.reverse_singleton, List.singleton_append, sOps]
      exact this
theorem sw_any {P : Program} {id : Nat} {ops : Array Oper} {Q : Exit → Act → World → Prop} {a : Act} {w : World} (hm : P.follows .mixedOrders = true) (h : sAny P .any ops Q ops.size (Array.replicate ops.size false) a { w with drawn := w.drawn + 1 }) : sw P (.region id ops true) Q a w := by
  unfold sw
  rw [if_pos rfl]
  intro t
  simp only [Region.schedule, hm, Bool.true_or, if_true]
  exact sAny_sound ops.size t _ a _ h
theorem quietAt_of {o : Oper} {a : Act} {w : World} {v : Value} (hw : Below C.heap.size C w) (h : quietG P o a w v) : o.quietAt P a (Below C.heap.size C) w v := by
  unfold quietG at h
  unfold Oper.quietAt
  generalize (execOp a.eval o).run P w = r at *
  cases r with
  | ok n w' =>
    cases n <;> simp only [Oper.quietUpon] at h ⊢ <;> try exact h
    case enter f args => exact ⟨h.1, h.2.mono fun e w'' ⟨he, hb⟩ => ⟨he, hw.trans (hb.mono hw.size)⟩⟩
  | halt x w' => exact h

theorem WP_draw {id : Nat} {l : List Oper} (hm : P.follows .mixedOrders = true) (hB : Region.lexB .any l.toArray = true)
    (h : ql P n l.toArray w (fun σ' => ∀ w', Below w.heap.size w w' → Q .normal σ' w') l σ) : WP P n (.region id l.toArray true) Q σ w := by
  refine ⟨?_⟩
  unfold sw
  rw [if_pos rfl]
  simp only [Region.lexB, Bool.and_eq_true] at hB
  refine fun t => sOps_of (sched_any hm (wpAny_of_quiet (Q := fun a' => ∀ w', Below w.heap.size w w' → lift n Q .normal a' w') (C := Below w.heap.size w) (fun _ w' hw' h => h w' hw') _ _ _ { w with drawn := w.drawn + 1 } ⟨rfl, rfl, rfl, Nat.le_refl _, fun _ _ => rfl⟩ ?_) t)
  have key : wpQuiet P l.toArray (Below w.heap.size w) (fun a' => ∀ w', Below w.heap.size w w' → lift n Q .normal a' w') l (Fr n σ) → _ := fun h => wpAnyQ_lex (P := P) (C := Below w.heap.size w) (md := .any) hB.1 l.toArray.toList 0 (Array.replicate l.toArray.size false) (Fr n σ) (by simp) (by simpa using hB.2) (by simpa using h)
  have h' := h.out
  have mono : ∀ (l' : List Oper) (a : Act), wpQ P l.toArray w (fun a => ∃ σ', a = Fr n σ' ∧ ∀ w', Below w.heap.size w w' → Q .normal σ' w') l' a →
      wpQuiet P l.toArray (Below w.heap.size w) (fun a' => ∀ w', Below w.heap.size w w' → lift n Q .normal a' w') l' a := by
    intro l'
    induction l' with
    | nil => rintro a ⟨σ', rfl, hq⟩ w' hw'; exact ⟨σ', rfl, hq w' hw'⟩
    | cons o r ih =>
      intro a ha
      unfold wpQ at ha
      unfold wpQuiet
      split
      · rename_i hw; rw [if_pos hw] at ha; obtain ⟨v, h1, h2⟩ := ha; exact ⟨v, fun w' hw' => quietAt_of hw' (h1 w' hw'), ih _ h2⟩
      · rename_i hw; rw [if_neg hw] at ha; exact ih _ ha
  have z := key (mono l _ h')
  simpa using z

/-! ### Code -/
def thenD (k : (Nat → Value) → World → Prop) (Q : Post) : Post
  | .normal, σ, w => k σ w
  | e, σ, w => Q e σ w
def inD (id : Nat) (Q : Post) : Post
  | .exit id', σ, w => bif Nat.beq id' id then Q .normal σ w else Q (.exit id') σ w
  | e, σ, w => Q e σ w
structure thenQ (k : (Nat → Value) → World → Prop) (Q : Post) (e : Exit) (σ : Nat → Value) (w : World) : Prop where mk :: (out : thenD k Q e σ w)
structure inB (id : Nat) (Q : Post) (e : Exit) (σ : Nat → Value) (w : World) : Prop where mk :: (out : inD id Q e σ w)

theorem WP_mono {c : Code} {Q' : Post} (hq : ∀ e σ w, Q e σ w → Q' e σ w) (h : WP P n c Q σ w) : WP P n c Q' σ w :=
  ⟨sw_mono (fun _ _ _ ⟨σ', ha, h⟩ => ⟨σ', ha, hq _ _ _ h⟩) h.out⟩

theorem WP_seq {x y : Code} (h : WP P n x (thenQ (WP P n y Q) Q) σ w) : WP P n (.seq x y) Q σ w := by
  refine ⟨?_⟩
  unfold sw
  refine sw_mono (fun e a w1 ⟨σ', ha, hq⟩ => ?_) h.out
  cases e with
  | normal => subst ha; exact WP.out hq.out
  | exit id => exact ⟨σ', ha, hq.out⟩
  | goto l => exact ⟨σ', ha, hq.out⟩
  | ret => exact ⟨σ', ha, hq.out⟩
  | panic c => exact ⟨σ', ha, hq.out⟩
  | outgrown => exact ⟨σ', ha, hq.out⟩

/-- Ways meet: what follows is walked once, from J. -/
theorem WP_seq_cut {x y : Code} (J : (Nat → Value) → World → Prop) (h : WP P n x (thenQ J Q) σ w) (k : ∀ σ' w', J σ' w' → WP P n y Q σ' w') : WP P n (.seq x y) Q σ w :=
  WP_seq (WP_mono (fun e σ' w' hq => by
    refine ⟨?_⟩
    cases e with
    | normal => exact k _ _ hq.out
    | exit id => exact hq.out
    | goto l => exact hq.out
    | ret => exact hq.out
    | panic c => exact hq.out
    | outgrown => exact hq.out) h)

theorem WP_cond {c : Operand} {x y : Code} {b : Bool} (hv : opv (cut n σ) c = .bool b) (h1 : b = true → WP P n x Q σ w) (h2 : b = false → WP P n y Q σ w) : WP P n (.cond c x y) Q σ w :=
  ⟨by unfold sw; exact ⟨b, by rw [Fr_eval]; exact hv, fun h => (h1 h).out, fun h => (h2 h).out⟩⟩

theorem WP_condT {c : Operand} {x y : Code} (hv : opv (cut n σ) c = .bool true) (h : WP P n x Q σ w) : WP P n (.cond c x y) Q σ w := WP_cond hv (fun _ => h) (fun e => by cases e)
theorem WP_condF {c : Operand} {x y : Code} (hv : opv (cut n σ) c = .bool false) (h : WP P n y Q σ w) : WP P n (.cond c x y) Q σ w := WP_cond hv (fun e => by cases e) (fun _ => h)
theorem WP_block {id : Nat} {c : Code} (h : WP P n c (inB id Q) σ w) : WP P n (.block id c) Q σ w := by
  refine ⟨?_⟩
  unfold sw
  refine sw_mono (fun e a w1 ⟨σ', ha, hq⟩ => ?_) h.out
  cases e with
  | exit id' =>
    show if id' = id then lift n Q .normal a w1 else lift n Q (.exit id') a w1
    have hq' : bif Nat.beq id' id then Q .normal σ' w1 else Q (.exit id') σ' w1 := hq.out
    by_cases e : id' = id
    · subst e; rw [if_pos rfl]; exact ⟨σ', ha, by simpa using hq'⟩
    · rw [if_neg e]
      have hb : Nat.beq id' id = false := by cases hb : Nat.beq id' id; rfl; exact absurd (Nat.eq_of_beq_eq_true hb) e
      exact ⟨σ', ha, by simpa [hb] using hq'⟩
  | normal => exact ⟨σ', ha, hq.out⟩
  | goto l => exact ⟨σ', ha, hq.out⟩
  | ret => exact ⟨σ', ha, hq.out⟩
  | panic c => exact ⟨σ', ha, hq.out⟩
  | outgrown => exact ⟨σ', ha, hq.out⟩

theorem WP_skip (h : Q .normal σ w) : WP P n .skip Q σ w := ⟨by unfold sw; exact ⟨σ, rfl, h⟩⟩
theorem WP_exit {id : Nat} (h : Q (.exit id) σ w) : WP P n (.exit id) Q σ w := ⟨by unfold sw; exact ⟨σ, rfl, h⟩⟩
theorem WP_ret (h : Q .ret σ w) : WP P n .ret Q σ w := ⟨by unfold sw; exact ⟨σ, rfl, h⟩⟩

/-- What a round must hand on. -/
structure nextI (I : Nat → (Nat → Value) → World → Prop) (k : Nat) (σ : Nat → Value) (w : World) : Prop where mk :: (out : ∃ k', k' < k ∧ I k' σ w)
theorem WP_loop {c : Code} (I : Nat → (Nat → Value) → World → Prop) (k0 : Nat) (h0 : I k0 σ w)
    (round : ∀ k σ w, I k σ w → WP P n c (thenQ (nextI I k) Q) σ w) : WP P n (.loop c) Q σ w := by
  refine ⟨?_⟩
  unfold sw
  refine ⟨fun k a w => ∃ σ', a = Fr n σ' ∧ I k σ' w, k0, ⟨σ, rfl, h0⟩, ?_⟩
  rintro k a w ⟨σ', rfl, hI⟩
  refine sw_mono (fun e a w1 ⟨σ'', ha, hq⟩ => ?_) (round k σ' w hI).out
  cases e with
  | normal => obtain ⟨k', hk, hI'⟩ := hq.out.out; exact ⟨k', hk, σ'', ha, hI'⟩
  | exit id => exact ⟨σ'', ha, hq.out⟩
  | goto l => exact ⟨σ'', ha, hq.out⟩
  | ret => exact ⟨σ'', ha, hq.out⟩
  | panic c => exact ⟨σ'', ha, hq.out⟩
  | outgrown => exact ⟨σ'', ha, hq.out⟩

/-- What slots hold. -/
def Has (σ : Nat → Value) : List (Nat × Value) → Prop
  | [] => True
  | (s, v) :: r => σ s = v ∧ Has σ r
def upds (σ : Nat → Value) : List (Nat × Value) → Nat → Value
  | [] => σ
  | (s, v) :: r => upd (upds σ r) s v
theorem upds_self {σ : Nat → Value} : ∀ {l : List (Nat × Value)}, Has σ l → upds σ l = σ
  | [], _ => rfl
  | (s, v) :: r, ⟨h, hr⟩ => by rw [upds, upds_self hr, upd_self h]
theorem WP_has {c : Code} {l : List (Nat × Value)} (h : Has σ l) (k : WP P n c Q (upds σ l) w) : WP P n c Q σ w := by rwa [upds_self h] at k

theorem wl_has {l : List (Nat × Value)} (h : Has σ l) (k : wl P n ops Q rest (upds σ l) w) : wl P n ops Q rest σ w := by rwa [upds_self h] at k
/-- The posts' steps. -/
theorem then_normal {k : (Nat → Value) → World → Prop} (h : k σ w) : thenQ k Q .normal σ w := ⟨h⟩
theorem then_exit {k : (Nat → Value) → World → Prop} {id : Nat} (h : Q (.exit id) σ w) : thenQ k Q (.exit id) σ w := ⟨h⟩
theorem then_ret {k : (Nat → Value) → World → Prop} (h : Q .ret σ w) : thenQ k Q .ret σ w := ⟨h⟩
theorem inB_normal {id : Nat} (h : Q .normal σ w) : inB id Q .normal σ w := ⟨h⟩
theorem inB_ret {id : Nat} (h : Q .ret σ w) : inB id Q .ret σ w := ⟨h⟩
theorem inB_here {id : Nat} (h : Q .normal σ w) : inB id Q (.exit id) σ w := ⟨by
  show bif Nat.beq id id then Q .normal σ w else Q (.exit id) σ w
  simpa using h⟩
end

/-! ### Gates: they let one kind of operation by -/
section
variable {P : Program} {n : Nat} {ops : Array Oper} {Q : Post} {σ : Nat → Value} {w : World} {rest : List Oper} {C : World} {K : (Nat → Value) → Prop} {d : Option Tmp} {ty : TypeId} {pos : String} {af : Array Edge} {g : Option (Nat × Bool)}
theorem g_move {x : Operand} (h : wl P n ops Q (⟨d, .move x, ty, pos, af, g⟩ :: rest) σ w) : wl P n ops Q (⟨d, .move x, ty, pos, af, g⟩ :: rest) σ w := h
theorem gq_move {x : Operand} (h : ql P n ops C K (⟨d, .move x, ty, pos, af, g⟩ :: rest) σ) : ql P n ops C K (⟨d, .move x, ty, pos, af, g⟩ :: rest) σ := h
theorem g_assign {x : Operand} (h : wl P n ops Q (⟨d, .assign x, ty, pos, af, g⟩ :: rest) σ w) : wl P n ops Q (⟨d, .assign x, ty, pos, af, g⟩ :: rest) σ w := h
theorem gq_assign {x : Operand} (h : ql P n ops C K (⟨d, .assign x, ty, pos, af, g⟩ :: rest) σ) : ql P n ops C K (⟨d, .assign x, ty, pos, af, g⟩ :: rest) σ := h
theorem g_pick {x y z : Operand} (h : wl P n ops Q (⟨d, .pick x y z, ty, pos, af, g⟩ :: rest) σ w) : wl P n ops Q (⟨d, .pick x y z, ty, pos, af, g⟩ :: rest) σ w := h
theorem gq_pick {x y z : Operand} (h : ql P n ops C K (⟨d, .pick x y z, ty, pos, af, g⟩ :: rest) σ) : ql P n ops C K (⟨d, .pick x y z, ty, pos, af, g⟩ :: rest) σ := h
theorem g_alloc {T : TypeId} (h : wl P n ops Q (⟨d, .alloc T, ty, pos, af, g⟩ :: rest) σ w) : wl P n ops Q (⟨d, .alloc T, ty, pos, af, g⟩ :: rest) σ w := h
theorem g_box {T : TypeId} {x : Operand} (h : wl P n ops Q (⟨d, .box T x, ty, pos, af, g⟩ :: rest) σ w) : wl P n ops Q (⟨d, .box T x, ty, pos, af, g⟩ :: rest) σ w := h
theorem g_build {T : TypeId} {ps : Array (Nat × Operand)} (h : wl P n ops Q (⟨d, .build T ps, ty, pos, af, g⟩ :: rest) σ w) : wl P n ops Q (⟨d, .build T ps, ty, pos, af, g⟩ :: rest) σ w := h
theorem gq_build {T : TypeId} {ps : Array (Nat × Operand)} (h : ql P n ops C K (⟨d, .build T ps, ty, pos, af, g⟩ :: rest) σ) : ql P n ops C K (⟨d, .build T ps, ty, pos, af, g⟩ :: rest) σ := h
theorem g_load {T : TypeId} {x : Operand} (h : wl P n ops Q (⟨d, .load T x, ty, pos, af, g⟩ :: rest) σ w) : wl P n ops Q (⟨d, .load T x, ty, pos, af, g⟩ :: rest) σ w := h
theorem gq_load {T : TypeId} {x : Operand} (h : ql P n ops C K (⟨d, .load T x, ty, pos, af, g⟩ :: rest) σ) : ql P n ops C K (⟨d, .load T x, ty, pos, af, g⟩ :: rest) σ := h
theorem g_store {T : TypeId} {x y : Operand} (h : wl P n ops Q (⟨d, .store T x y, ty, pos, af, g⟩ :: rest) σ w) : wl P n ops Q (⟨d, .store T x y, ty, pos, af, g⟩ :: rest) σ w := h
theorem g_un {b : UnOp} {T : TypeId} {x : Operand} (h : wl P n ops Q (⟨d, .unOp b T x, ty, pos, af, g⟩ :: rest) σ w) : wl P n ops Q (⟨d, .unOp b T x, ty, pos, af, g⟩ :: rest) σ w := h
theorem gq_un {b : UnOp} {T : TypeId} {x : Operand} (h : ql P n ops C K (⟨d, .unOp b T x, ty, pos, af, g⟩ :: rest) σ) : ql P n ops C K (⟨d, .unOp b T x, ty, pos, af, g⟩ :: rest) σ := h
theorem g_convert {T T' : TypeId} {x : Operand} (h : wl P n ops Q (⟨d, .convert T T' x, ty, pos, af, g⟩ :: rest) σ w) : wl P n ops Q (⟨d, .convert T T' x, ty, pos, af, g⟩ :: rest) σ w := h
theorem g_makeFunc {f : Fn} {a b : Array Operand} (h : wl P n ops Q (⟨d, .makeFunc f a b, ty, pos, af, g⟩ :: rest) σ w) : wl P n ops Q (⟨d, .makeFunc f a b, ty, pos, af, g⟩ :: rest) σ w := h
theorem g_fieldAddr {T : TypeId} {x : Operand} {j : Nat} (h : wl P n ops Q (⟨d, .fieldAddr T x j, ty, pos, af, g⟩ :: rest) σ w) : wl P n ops Q (⟨d, .fieldAddr T x j, ty, pos, af, g⟩ :: rest) σ w := h
theorem gq_fieldAddr {T : TypeId} {x : Operand} {j : Nat} (h : ql P n ops C K (⟨d, .fieldAddr T x j, ty, pos, af, g⟩ :: rest) σ) : ql P n ops C K (⟨d, .fieldAddr T x j, ty, pos, af, g⟩ :: rest) σ := h
theorem gq_field {T : TypeId} {x : Operand} {j : Nat} (h : ql P n ops C K (⟨d, .field T x j, ty, pos, af, g⟩ :: rest) σ) : ql P n ops C K (⟨d, .field T x j, ty, pos, af, g⟩ :: rest) σ := h
theorem g_indexAddr {T : TypeId} {x y : Operand} (h : wl P n ops Q (⟨d, .indexAddr T x y, ty, pos, af, g⟩ :: rest) σ w) : wl P n ops Q (⟨d, .indexAddr T x y, ty, pos, af, g⟩ :: rest) σ w := h
theorem gq_indexAddr {T : TypeId} {x y : Operand} (h : ql P n ops C K (⟨d, .indexAddr T x y, ty, pos, af, g⟩ :: rest) σ) : ql P n ops C K (⟨d, .indexAddr T x y, ty, pos, af, g⟩ :: rest) σ := h
theorem g_index {T : TypeId} {x y : Operand} (h : wl P n ops Q (⟨d, .index T x y, ty, pos, af, g⟩ :: rest) σ w) : wl P n ops Q (⟨d, .index T x y, ty, pos, af, g⟩ :: rest) σ w := h
theorem g_extract {x : Operand} {j : Nat} (h : wl P n ops Q (⟨d, .extract x j, ty, pos, af, g⟩ :: rest) σ w) : wl P n ops Q (⟨d, .extract x j, ty, pos, af, g⟩ :: rest) σ w := h
theorem g_callV {x : Operand} {as : Array Operand} {ts : Array TypeId} (h : wl P n ops Q (⟨d, .call { callee := .value x, args := as, argTypes := ts }, ty, pos, af, g⟩ :: rest) σ w) : wl P n ops Q (⟨d, .call { callee := .value x, args := as, argTypes := ts }, ty, pos, af, g⟩ :: rest) σ w := h
theorem gq_callV {x : Operand} {as : Array Operand} {ts : Array TypeId} (h : ql P n ops C K (⟨d, .call { callee := .value x, args := as, argTypes := ts }, ty, pos, af, g⟩ :: rest) σ) : ql P n ops C K (⟨d, .call { callee := .value x, args := as, argTypes := ts }, ty, pos, af, g⟩ :: rest) σ := h
theorem g_b_add {T T' : TypeId} {x y : Operand} (h : wl P n ops Q (⟨d, .binOp .add T x y T', ty, pos, af, g⟩ :: rest) σ w) : wl P n ops Q (⟨d, .binOp .add T x y T', ty, pos, af, g⟩ :: rest) σ w := h
theorem gq_b_add {T T' : TypeId} {x y : Operand} (h : ql P n ops C K (⟨d, .binOp .add T x y T', ty, pos, af, g⟩ :: rest) σ) : ql P n ops C K (⟨d, .binOp .add T x y T', ty, pos, af, g⟩ :: rest) σ := h
theorem g_b_sub {T T' : TypeId} {x y : Operand} (h : wl P n ops Q (⟨d, .binOp .sub T x y T', ty, pos, af, g⟩ :: rest) σ w) : wl P n ops Q (⟨d, .binOp .sub T x y T', ty, pos, af, g⟩ :: rest) σ w := h
theorem gq_b_sub {T T' : TypeId} {x y : Operand} (h : ql P n ops C K (⟨d, .binOp .sub T x y T', ty, pos, af, g⟩ :: rest) σ) : ql P n ops C K (⟨d, .binOp .sub T x y T', ty, pos, af, g⟩ :: rest) σ := h
theorem g_b_mul {T T' : TypeId} {x y : Operand} (h : wl P n ops Q (⟨d, .binOp .mul T x y T', ty, pos, af, g⟩ :: rest) σ w) : wl P n ops Q (⟨d, .binOp .mul T x y T', ty, pos, af, g⟩ :: rest) σ w := h
theorem gq_b_mul {T T' : TypeId} {x y : Operand} (h : ql P n ops C K (⟨d, .binOp .mul T x y T', ty, pos, af, g⟩ :: rest) σ) : ql P n ops C K (⟨d, .binOp .mul T x y T', ty, pos, af, g⟩ :: rest) σ := h
theorem g_b_quo {T T' : TypeId} {x y : Operand} (h : wl P n ops Q (⟨d, .binOp .quo T x y T', ty, pos, af, g⟩ :: rest) σ w) : wl P n ops Q (⟨d, .binOp .quo T x y T', ty, pos, af, g⟩ :: rest) σ w := h
theorem g_b_rem {T T' : TypeId} {x y : Operand} (h : wl P n ops Q (⟨d, .binOp .rem T x y T', ty, pos, af, g⟩ :: rest) σ w) : wl P n ops Q (⟨d, .binOp .rem T x y T', ty, pos, af, g⟩ :: rest) σ w := h
theorem g_b_eql {T T' : TypeId} {x y : Operand} (h : wl P n ops Q (⟨d, .binOp .eql T x y T', ty, pos, af, g⟩ :: rest) σ w) : wl P n ops Q (⟨d, .binOp .eql T x y T', ty, pos, af, g⟩ :: rest) σ w := h
theorem gq_b_eql {T T' : TypeId} {x y : Operand} (h : ql P n ops C K (⟨d, .binOp .eql T x y T', ty, pos, af, g⟩ :: rest) σ) : ql P n ops C K (⟨d, .binOp .eql T x y T', ty, pos, af, g⟩ :: rest) σ := h
theorem g_b_neq {T T' : TypeId} {x y : Operand} (h : wl P n ops Q (⟨d, .binOp .neq T x y T', ty, pos, af, g⟩ :: rest) σ w) : wl P n ops Q (⟨d, .binOp .neq T x y T', ty, pos, af, g⟩ :: rest) σ w := h
theorem gq_b_neq {T T' : TypeId} {x y : Operand} (h : ql P n ops C K (⟨d, .binOp .neq T x y T', ty, pos, af, g⟩ :: rest) σ) : ql P n ops C K (⟨d, .binOp .neq T x y T', ty, pos, af, g⟩ :: rest) σ := h
theorem g_b_lss {T T' : TypeId} {x y : Operand} (h : wl P n ops Q (⟨d, .binOp .lss T x y T', ty, pos, af, g⟩ :: rest) σ w) : wl P n ops Q (⟨d, .binOp .lss T x y T', ty, pos, af, g⟩ :: rest) σ w := h
theorem gq_b_lss {T T' : TypeId} {x y : Operand} (h : ql P n ops C K (⟨d, .binOp .lss T x y T', ty, pos, af, g⟩ :: rest) σ) : ql P n ops C K (⟨d, .binOp .lss T x y T', ty, pos, af, g⟩ :: rest) σ := h
theorem g_b_leq {T T' : TypeId} {x y : Operand} (h : wl P n ops Q (⟨d, .binOp .leq T x y T', ty, pos, af, g⟩ :: rest) σ w) : wl P n ops Q (⟨d, .binOp .leq T x y T', ty, pos, af, g⟩ :: rest) σ w := h
theorem gq_b_leq {T T' : TypeId} {x y : Operand} (h : ql P n ops C K (⟨d, .binOp .leq T x y T', ty, pos, af, g⟩ :: rest) σ) : ql P n ops C K (⟨d, .binOp .leq T x y T', ty, pos, af, g⟩ :: rest) σ := h
theorem g_b_gtr {T T' : TypeId} {x y : Operand} (h : wl P n ops Q (⟨d, .binOp .gtr T x y T', ty, pos, af, g⟩ :: rest) σ w) : wl P n ops Q (⟨d, .binOp .gtr T x y T', ty, pos, af, g⟩ :: rest) σ w := h
theorem gq_b_gtr {T T' : TypeId} {x y : Operand} (h : ql P n ops C K (⟨d, .binOp .gtr T x y T', ty, pos, af, g⟩ :: rest) σ) : ql P n ops C K (⟨d, .binOp .gtr T x y T', ty, pos, af, g⟩ :: rest) σ := h
theorem g_b_geq {T T' : TypeId} {x y : Operand} (h : wl P n ops Q (⟨d, .binOp .geq T x y T', ty, pos, af, g⟩ :: rest) σ w) : wl P n ops Q (⟨d, .binOp .geq T x y T', ty, pos, af, g⟩ :: rest) σ w := h
theorem gq_b_geq {T T' : TypeId} {x y : Operand} (h : ql P n ops C K (⟨d, .binOp .geq T x y T', ty, pos, af, g⟩ :: rest) σ) : ql P n ops C K (⟨d, .binOp .geq T x y T', ty, pos, af, g⟩ :: rest) σ := h
theorem g_b_and {T T' : TypeId} {x y : Operand} (h : wl P n ops Q (⟨d, .binOp .and T x y T', ty, pos, af, g⟩ :: rest) σ w) : wl P n ops Q (⟨d, .binOp .and T x y T', ty, pos, af, g⟩ :: rest) σ w := h
theorem gq_b_or {T T' : TypeId} {x y : Operand} (h : ql P n ops C K (⟨d, .binOp .or T x y T', ty, pos, af, g⟩ :: rest) σ) : ql P n ops C K (⟨d, .binOp .or T x y T', ty, pos, af, g⟩ :: rest) σ := h
theorem gq_b_shl {T T' : TypeId} {x y : Operand} (h : ql P n ops C K (⟨d, .binOp .shl T x y T', ty, pos, af, g⟩ :: rest) σ) : ql P n ops C K (⟨d, .binOp .shl T x y T', ty, pos, af, g⟩ :: rest) σ := h
theorem g_b_shr {T T' : TypeId} {x y : Operand} (h : wl P n ops Q (⟨d, .binOp .shr T x y T', ty, pos, af, g⟩ :: rest) σ w) : wl P n ops Q (⟨d, .binOp .shr T x y T', ty, pos, af, g⟩ :: rest) σ w := h
theorem g_c_len {as : Array Operand} {ts : Array TypeId} (h : wl P n ops Q (⟨d, .call { callee := .builtin .len, args := as, argTypes := ts }, ty, pos, af, g⟩ :: rest) σ w) : wl P n ops Q (⟨d, .call { callee := .builtin .len, args := as, argTypes := ts }, ty, pos, af, g⟩ :: rest) σ w := h
theorem gq_c_len {as : Array Operand} {ts : Array TypeId} (h : ql P n ops C K (⟨d, .call { callee := .builtin .len, args := as, argTypes := ts }, ty, pos, af, g⟩ :: rest) σ) : ql P n ops C K (⟨d, .call { callee := .builtin .len, args := as, argTypes := ts }, ty, pos, af, g⟩ :: rest) σ := h
theorem g_c_max {as : Array Operand} {ts : Array TypeId} (h : wl P n ops Q (⟨d, .call { callee := .builtin .max, args := as, argTypes := ts }, ty, pos, af, g⟩ :: rest) σ w) : wl P n ops Q (⟨d, .call { callee := .builtin .max, args := as, argTypes := ts }, ty, pos, af, g⟩ :: rest) σ w := h
theorem g_c_min {as : Array Operand} {ts : Array TypeId} (h : wl P n ops Q (⟨d, .call { callee := .builtin .min, args := as, argTypes := ts }, ty, pos, af, g⟩ :: rest) σ w) : wl P n ops Q (⟨d, .call { callee := .builtin .min, args := as, argTypes := ts }, ty, pos, af, g⟩ :: rest) σ w := h
theorem gq_c_min {as : Array Operand} {ts : Array TypeId} (h : ql P n ops C K (⟨d, .call { callee := .builtin .min, args := as, argTypes := ts }, ty, pos, af, g⟩ :: rest) σ) : ql P n ops C K (⟨d, .call { callee := .builtin .min, args := as, argTypes := ts }, ty, pos, af, g⟩ :: rest) σ := h
theorem g_nilCheck {x : Operand} (h : wl P n ops Q (⟨d, .nilCheck x, ty, pos, af, g⟩ :: rest) σ w) : wl P n ops Q (⟨d, .nilCheck x, ty, pos, af, g⟩ :: rest) σ w := h
theorem gq_nilCheck {x : Operand} (h : ql P n ops C K (⟨d, .nilCheck x, ty, pos, af, g⟩ :: rest) σ) : ql P n ops C K (⟨d, .nilCheck x, ty, pos, af, g⟩ :: rest) σ := h
theorem g_guard {o : Op} {z : Nat × Bool} (h : wl P n ops Q (⟨d, o, ty, pos, af, some z⟩ :: rest) σ w) : wl P n ops Q (⟨d, o, ty, pos, af, some z⟩ :: rest) σ w := h
theorem gq_guard {o : Op} {z : Nat × Bool} (h : ql P n ops C K (⟨d, o, ty, pos, af, some z⟩ :: rest) σ) : ql P n ops C K (⟨d, o, ty, pos, af, some z⟩ :: rest) σ := h
end

/-! ### A call's begin and end -/
def args0 : List Value → Nat → Nat → Value
  | [], _ => fun _ => undef
  | v :: r, k => upd (args0 r (k + 1)) k v

theorem args0_get (l : List Value) : ∀ k t, args0 l k t = if k ≤ t then (l[t - k]?).getD undef else undef := by
  induction l with
  | nil => intro k t; simp [args0]
  | cons v r ih =>
    intro k t
    rw [args0]
    by_cases e : t = k
    · subst e; simp [upd_same]
    · rw [upd_other _ _ e, ih]
      by_cases h : k ≤ t
      · have h1 : k + 1 ≤ t := by omega
        obtain ⟨d, rfl⟩ : ∃ d, t = k + 1 + d := ⟨t - (k + 1), by omega⟩
        rw [if_pos h1, if_pos h, show k + 1 + d - (k + 1) = d by omega, show k + 1 + d - k = d + 1 by omega]; rfl
      · rw [if_neg (by omega), if_neg h]

def endD (P : Program) (fn : Func) (n : Nat) (R : Ending → World → Prop) : Post := fun e σ w =>
  match e with
  | .normal | .ret => ∃ v, (results fn (Fr n σ).tmps).run P w = .ok v w ∧ R (.returned v) w
  | .panic c => R (.panicked c) w
  | .outgrown => R .outgrown w
  | _ => False
structure endQ (P : Program) (fn : Func) (n : Nat) (R : Ending → World → Prop) (e : Exit) (σ : Nat → Value) (w : World) : Prop where mk :: (out : endD P fn n R e σ w)

theorem calls_enter {P : Program} {f n : Nat} {fn : Func} {c : Code} {l : List Value} {w : World} {R : Ending → World → Prop} (hf : P.funcs[f]? = some fn) (hb : fn.body = some c)
    (hR : ∀ w, ¬ R .outgrown w) (hn : fn.ntmps = n) (hln' : Nat.ble l.length n = true) (h : WP P n c (endQ P fn n R) (args0 l 0) w) : Calls P f l.toArray w R := by
  subst hn
  have hln : l.length ≤ fn.ntmps := Nat.le_of_ble_eq_true hln'
  refine callsIn_wide.1 (callsIn_of_wp (F := Fence.wide) (n := 0) hf hb trivial ?_)
  have hfr : ({ tmps := l.toArray ++ Array.replicate (fn.ntmps - l.toArray.size) undef, defers := [] } : Act) = Fr fn.ntmps (args0 l 0) := by
    unfold Fr
    congr 1
    apply Array.ext_getElem?
    intro i
    rw [Array.getElem?_ofFn, Array.getElem?_append]
    by_cases h1 : i < l.length
    · have h2 : i < fn.ntmps := by omega
      simp [h1, h2, args0_get]
    · by_cases h2 : i < fn.ntmps
      · have h3 : i - l.length < fn.ntmps - l.length := by omega
        simp [h1, h2, args0_get, h3]
      · have h3 : ¬ i - l.length < fn.ntmps - l.length := by omega
        simp [h1, h2, h3]
  rw [hfr]
  have z : c.wpIn (widR none) 0 P (postD [] (lift fn.ntmps (endQ P fn fn.ntmps R))) (actD [] (Fr fn.ntmps (args0 l 0))) w := sw_in (.inl rfl) (fun ⟨a, w, σ', _, hq⟩ => hR w hq.out) h.out
  rw [actD_nil] at z
  refine wpIn_mono z ?_
  rintro e a w1 ⟨b, hbb, σ', ha, hq⟩
  subst ha
  rw [actD_nil] at hbb
  subst hbb
  cases e with
  | normal => exact ⟨rfl, hq.out⟩
  | ret => exact ⟨rfl, hq.out⟩
  | panic c => exact ⟨rfl, hq.out⟩
  | exit id => exact hq.out.elim
  | goto l => exact hq.out.elim
  | outgrown => exact hq.out

theorem Fr_getD (n : Nat) (σ : Nat → Value) (t : Nat) : (Fr n σ).tmps.getD t undef = cut n σ t := congrFun (Fr_eval n σ) (.tmp t)
theorem end1 {P : Program} {fn : Func} {n : Nat} {R : Ending → World → Prop} {σ : Nat → Value} {w : World} {t : Nat} {v : Value} (hr : fn.results = #[.tmp t]) (hv : cut n σ t = v) (h : R (.returned v) w) : endQ P fn n R .ret σ w :=
  ⟨⟨_, results_tmp hr _ _ _, by rw [Fr_getD, hv]; exact h⟩⟩
theorem end2 {P : Program} {fn : Func} {n : Nat} {R : Ending → World → Prop} {σ : Nat → Value} {w : World} {t u : Nat} {v v2 : Value} (hr : fn.results = #[.tmp t, .tmp u]) (hv : cut n σ t = v) (hv2 : cut n σ u = v2)
    (h : R (.returned (.tuple #[v, v2])) w) : endQ P fn n R .ret σ w :=
  ⟨⟨_, results_tmp2 hr _ _ _, by rw [Fr_getD, Fr_getD, hv, hv2]; exact h⟩⟩
theorem end3 {P : Program} {fn : Func} {n : Nat} {R : Ending → World → Prop} {σ : Nat → Value} {w : World} {t u x : Nat} {v v2 v3 : Value} (hr : fn.results = #[.tmp t, .tmp u, .tmp x]) (hv : cut n σ t = v) (hv2 : cut n σ u = v2)
    (hv3 : cut n σ x = v3) (h : R (.returned (.tuple #[v, v2, v3])) w) : endQ P fn n R .ret σ w :=
  ⟨⟨_, results_tmp3 hr _ _ _, by rw [Fr_getD, Fr_getD, Fr_getD, hv, hv2, hv3]; exact h⟩⟩
theorem end0 {P : Program} {fn : Func} {n : Nat} {R : Ending → World → Prop} {σ : Nat → Value} {w : World} (hr : fn.results = #[]) (h : R (.returned (.tuple #[])) w) : endQ P fn n R .normal σ w :=
  ⟨⟨_, results_none hr _ _ _, h⟩⟩
theorem end0r {P : Program} {fn : Func} {n : Nat} {R : Ending → World → Prop} {σ : Nat → Value} {w : World} (hr : fn.results = #[]) (h : R (.returned (.tuple #[])) w) : endQ P fn n R .ret σ w :=
  ⟨⟨_, results_none hr _ _ _, h⟩⟩
/-- Results that lie in variables. -/
theorem endC {P : Program} {fn : Func} {n : Nat} {R : Ending → World → Prop} {σ : Nat → Value} {w : World} {v : Value} (hr : (results fn (Fr n σ).tmps).run P w = .ok v w) (h : R (.returned v) w) : endQ P fn n R .ret σ w := ⟨⟨v, hr, h⟩⟩

end Go.Gx
/-
  What single operations come to: one lemma for each shape.
-/
namespace Go.Gx
set_option linter.unusedSimpArgs false
open Go Go.RowKit

/-- What types are. -/
class IsInt (P : Program) (T : TypeId) (k : outParam IntKind) : Prop where out : P.underlying T = some (.int k)
class IsSlice (P : Program) (T : TypeId) (e : outParam TypeId) : Prop where out : P.underlying T = some (.slice e)
class IsArr (P : Program) (T : TypeId) (n : outParam Nat) (e : outParam TypeId) : Prop where out : P.underlying T = some (.array n e)
class IsBool (P : Program) (T : TypeId) : Prop where out : P.underlying T = some .bool
class IsStr (P : Program) (T : TypeId) : Prop where out : P.underlying T = some .string

section
variable {P : Program} {ρ : Operand → Value} {w : World} {d : Option Tmp} {ty : TypeId} {pos : String} {af : Array Edge} {g : Option (Nat × Bool)} {T T' : TypeId} {s t : Operand} {k k' : IntKind} {x y : Int}

theorem r_add (h1 : ρ s = .int k x) (h2 : ρ t = .int k y) : Runs P ρ ⟨d, .binOp .add T s t T', ty, pos, af, g⟩ w (.ok (.value (.int k (k.wrap (x + y)))) w) :=
  ⟨by simp [execOp, h1, h2, binOp, eqGuard, Op.intArith, pure, bind, Sem.bind, Sem.run]⟩
theorem r_sub (h1 : ρ s = .int k x) (h2 : ρ t = .int k y) : Runs P ρ ⟨d, .binOp .sub T s t T', ty, pos, af, g⟩ w (.ok (.value (.int k (k.wrap (x - y)))) w) :=
  ⟨by simp [execOp, h1, h2, binOp, eqGuard, Op.intArith, pure, bind, Sem.bind, Sem.run]⟩
theorem r_mul (h1 : ρ s = .int k x) (h2 : ρ t = .int k y) : Runs P ρ ⟨d, .binOp .mul T s t T', ty, pos, af, g⟩ w (.ok (.value (.int k (k.wrap (x * y)))) w) :=
  ⟨by simp [execOp, h1, h2, binOp, eqGuard, Op.intArith, pure, bind, Sem.bind, Sem.run]⟩
theorem wrap_in {z : Int} (h0 : -9223372036854775808 ≤ z) (h1 : z ≤ 9223372036854775807) : IntKind.i64.wrap z = z := by rw [IntKind.wrap_i64]; omega
theorem r_addN (h1 : ρ s = .int .i64 x) (h2 : ρ t = .int .i64 y) (h0 : -9223372036854775808 ≤ x + y) (h : x + y ≤ 9223372036854775807) : Runs P ρ ⟨d, .binOp .add T s t T', ty, pos, af, g⟩ w (.ok (.value (.int .i64 (x + y))) w) := by
  have := r_add (P := P) (w := w) (d := d) (ty := ty) (pos := pos) (af := af) (g := g) (T := T) (T' := T') h1 h2; rwa [wrap_in h0 h] at this
theorem r_subN (h1 : ρ s = .int .i64 x) (h2 : ρ t = .int .i64 y) (h0 : -9223372036854775808 ≤ x - y) (h : x - y ≤ 9223372036854775807) : Runs P ρ ⟨d, .binOp .sub T s t T', ty, pos, af, g⟩ w (.ok (.value (.int .i64 (x - y))) w) := by
  have := r_sub (P := P) (w := w) (d := d) (ty := ty) (pos := pos) (af := af) (g := g) (T := T) (T' := T') h1 h2; rwa [wrap_in h0 h] at this
theorem r_mulN (h1 : ρ s = .int .i64 x) (h2 : ρ t = .int .i64 y) (h0 : -9223372036854775808 ≤ x * y) (h : x * y ≤ 9223372036854775807) : Runs P ρ ⟨d, .binOp .mul T s t T', ty, pos, af, g⟩ w (.ok (.value (.int .i64 (x * y))) w) := by
  have := r_mul (P := P) (w := w) (d := d) (ty := ty) (pos := pos) (af := af) (g := g) (T := T) (T' := T') h1 h2; rwa [wrap_in h0 h] at this
theorem r_quo (h1 : ρ s = .int k x) (h2 : ρ t = .int k y) (h0 : y ≠ 0) : Runs P ρ ⟨d, .binOp .quo T s t T', ty, pos, af, g⟩ w (.ok (.value (.int k (k.wrap (x.tdiv y)))) w) :=
  ⟨by simp [execOp, h1, h2, binOp, eqGuard, Op.intDiv, h0, pure, bind, Sem.bind, Sem.run]⟩
theorem r_rem (h1 : ρ s = .int k x) (h2 : ρ t = .int k y) (h0 : y ≠ 0) : Runs P ρ ⟨d, .binOp .rem T s t T', ty, pos, af, g⟩ w (.ok (.value (.int k (x.tmod y))) w) :=
  ⟨by simp [execOp, h1, h2, binOp, eqGuard, Op.intDiv, h0, pure, bind, Sem.bind, Sem.run]⟩
theorem r_quoN (h1 : ρ s = .int .i64 x) (h2 : ρ t = .int .i64 y) (h0 : 0 ≤ x) (hx : x ≤ 9223372036854775807) (h : 0 < y) : Runs P ρ ⟨d, .binOp .quo T s t T', ty, pos, af, g⟩ w (.ok (.value (.int .i64 (x / y))) w) := by
  have := r_quo (P := P) (w := w) (d := d) (ty := ty) (pos := pos) (af := af) (g := g) (T := T) (T' := T') h1 h2 (by omega)
  rwa [Int.tdiv_eq_ediv_of_nonneg h0, wrap_in (by have := Int.ediv_nonneg h0 (Int.le_of_lt h); omega) (by have := Int.ediv_le_self y h0; omega)] at this
theorem r_remN (h1 : ρ s = .int k x) (h2 : ρ t = .int k y) (h0 : 0 ≤ x) (h : 0 < y) : Runs P ρ ⟨d, .binOp .rem T s t T', ty, pos, af, g⟩ w (.ok (.value (.int k (x % y))) w) := by
  have := r_rem (P := P) (w := w) (d := d) (ty := ty) (pos := pos) (af := af) (g := g) (T := T) (T' := T') h1 h2 (by omega)
  rwa [Int.tmod_eq_emod_of_nonneg h0] at this
theorem r_eql (h1 : ρ s = .int k x) (h2 : ρ t = .int k y) : Runs P ρ ⟨d, .binOp .eql T s t T', ty, pos, af, g⟩ w (.ok (.value (.bool (decide (x = y)))) w) :=
  ⟨by simp [execOp, h1, h2, binOp, eqGuard, Op.intCmp, pure, bind, Sem.bind, Sem.run]; rfl⟩
theorem r_neq (h1 : ρ s = .int k x) (h2 : ρ t = .int k y) : Runs P ρ ⟨d, .binOp .neq T s t T', ty, pos, af, g⟩ w (.ok (.value (.bool (!decide (x = y)))) w) :=
  ⟨by simp [execOp, h1, h2, binOp, eqGuard, Op.intCmp, pure, bind, Sem.bind, Sem.run]; rfl⟩
theorem r_lss (h1 : ρ s = .int k x) (h2 : ρ t = .int k y) : Runs P ρ ⟨d, .binOp .lss T s t T', ty, pos, af, g⟩ w (.ok (.value (.bool (decide (x < y)))) w) :=
  ⟨by simp [execOp, h1, h2, binOp, eqGuard, Op.intCmp, pure, bind, Sem.bind, Sem.run]⟩
theorem r_leq (h1 : ρ s = .int k x) (h2 : ρ t = .int k y) : Runs P ρ ⟨d, .binOp .leq T s t T', ty, pos, af, g⟩ w (.ok (.value (.bool (decide (x ≤ y)))) w) :=
  ⟨by simp [execOp, h1, h2, binOp, eqGuard, Op.intCmp, pure, bind, Sem.bind, Sem.run]⟩
theorem r_gtr (h1 : ρ s = .int k x) (h2 : ρ t = .int k y) : Runs P ρ ⟨d, .binOp .gtr T s t T', ty, pos, af, g⟩ w (.ok (.value (.bool (decide (y < x)))) w) :=
  ⟨by simp [execOp, h1, h2, binOp, eqGuard, Op.intCmp, pure, bind, Sem.bind, Sem.run]⟩
theorem r_geq (h1 : ρ s = .int k x) (h2 : ρ t = .int k y) : Runs P ρ ⟨d, .binOp .geq T s t T', ty, pos, af, g⟩ w (.ok (.value (.bool (decide (y ≤ x)))) w) :=
  ⟨by simp [execOp, h1, h2, binOp, eqGuard, Op.intCmp, pure, bind, Sem.bind, Sem.run]⟩
theorem r_shl (h1 : ρ s = .int k x) (h2 : ρ t = .int k' y) (h0 : 0 ≤ y) : Runs P ρ ⟨d, .binOp .shl T s t T', ty, pos, af, g⟩ w (.ok (.value (.int k (k.wrap (x * 2 ^ (min y.toNat k.bits))))) w) :=
  ⟨by simp [execOp, h1, h2, binOp, eqGuard, Op.shift, Int.not_lt.2 h0, pure, bind, Sem.bind, Sem.run]⟩
theorem r_shr (h1 : ρ s = .int k x) (h2 : ρ t = .int k' y) (h0 : 0 ≤ y) : Runs P ρ ⟨d, .binOp .shr T s t T', ty, pos, af, g⟩ w (.ok (.value (.int k (x.fdiv (2 ^ (min y.toNat k.bits))))) w) :=
  ⟨by simp [execOp, h1, h2, binOp, eqGuard, Op.shift, Int.not_lt.2 h0, pure, bind, Sem.bind, Sem.run]⟩
def bitsOp (op : BinOp) (k : IntKind) (x y : Int) : Int :=
  let a := BitVec.ofInt k.bits x
  let b := BitVec.ofInt k.bits y
  k.wrap (match op with | .and => (a &&& b).toNat | .or => (a ||| b).toNat | .xor => (a ^^^ b).toNat | _ => (a &&& ~~~b).toNat)
theorem r_and (h1 : ρ s = .int k x) (h2 : ρ t = .int k y) : Runs P ρ ⟨d, .binOp .and T s t T', ty, pos, af, g⟩ w (.ok (.value (.int k (bitsOp .and k x y))) w) :=
  ⟨by simp [execOp, h1, h2, binOp, eqGuard, Op.intBits, bitsOp, pure, bind, Sem.bind, Sem.run]⟩
theorem r_or (h1 : ρ s = .int k x) (h2 : ρ t = .int k y) : Runs P ρ ⟨d, .binOp .or T s t T', ty, pos, af, g⟩ w (.ok (.value (.int k (bitsOp .or k x y))) w) :=
  ⟨by simp [execOp, h1, h2, binOp, eqGuard, Op.intBits, bitsOp, pure, bind, Sem.bind, Sem.run]⟩
theorem r_not {b : Bool} (h1 : ρ s = .bool b) : Runs P ρ ⟨d, .unOp .not T s, ty, pos, af, g⟩ w (.ok (.value (.bool (!b))) w) :=
  ⟨by simp [execOp, h1, Op.unary, pure, bind, Sem.bind, Sem.run]⟩
theorem r_neg (h1 : ρ s = .int k x) : Runs P ρ ⟨d, .unOp .neg T s, ty, pos, af, g⟩ w (.ok (.value (.int k (k.wrap (-x)))) w) :=
  ⟨by simp [execOp, h1, Op.unary, Op.intArith, pure, bind, Sem.bind, Sem.run]⟩
theorem r_negN (h1 : ρ s = .int .i64 x) (h0 : -9223372036854775807 ≤ x) (h : x ≤ 9223372036854775807) : Runs P ρ ⟨d, .unOp .neg T s, ty, pos, af, g⟩ w (.ok (.value (.int .i64 (-x))) w) := by
  have := r_neg (P := P) (w := w) (d := d) (ty := ty) (pos := pos) (af := af) (g := g) (T := T) h1; rwa [wrap_in (by omega) (by omega)] at this
theorem r_extract {vs : Array Value} {i : Nat} {v : Value} (h1 : ρ s = .tuple vs) (h2 : vs[i]? = some v) : Runs P ρ ⟨d, .extract s i, ty, pos, af, g⟩ w (.ok (.value v) w) :=
  ⟨by simp [execOp, h1, Instr.extract, h2, pure, bind, Sem.bind, Sem.run]⟩
theorem run_underlying' {u : TypeDesc} (h : P.underlying T = some u) : (underlying T).run P w = .ok u w := by simp [underlying, program, bind, Sem.bind, Sem.run, h, pure]
theorem r_convert {k0 : IntKind} [hS : IsInt P T k0] [hT : IsInt P T' k'] (h1 : ρ s = .int k x) : Runs P ρ ⟨d, .convert T T' s, ty, pos, af, g⟩ w (.ok (.value (.int k' (k'.wrap x))) w) :=
  ⟨by simp [execOp, h1, convert, underlying, program, bind, Sem.bind, Sem.run, hS.out, hT.out, pure, Conv.intToInt]⟩
theorem r_max2 (h1 : ρ s = .int k x) (h2 : ρ t = .int k y) {a b : TypeId} : Runs P ρ ⟨d, .call { callee := .builtin .max, args := #[s, t], argTypes := #[a, b] }, ty, pos, af, g⟩ w (.ok (.value (.int k (max x y))) w) :=
  ⟨by
    have e : (if y > x then y else x) = max x y := by rw [Int.max_def]; split <;> split <;> omega
    simp [execOp, resolve, invoke, builtin, Builtin.max_, Builtin.max2, h1, h2, pure, bind, Sem.bind, Sem.run, e, List.foldlM]⟩
theorem r_min2 (h1 : ρ s = .int k x) (h2 : ρ t = .int k y) {a b : TypeId} : Runs P ρ ⟨d, .call { callee := .builtin .min, args := #[s, t], argTypes := #[a, b] }, ty, pos, af, g⟩ w (.ok (.value (.int k (min x y))) w) :=
  ⟨by
    have e : (if y < x then y else x) = min x y := by rw [Int.min_def]; split <;> split <;> omega
    simp [execOp, resolve, invoke, builtin, Builtin.min_, Builtin.min2, h1, h2, pure, bind, Sem.bind, Sem.run, e, List.foldlM]⟩
theorem r_lenSlice {e : TypeId} {A : Option Addr} {n c : Nat} [hT : IsSlice P T e] (h1 : ρ s = .slice A n c) : Runs P ρ ⟨d, .call { callee := .builtin .len, args := #[s], argTypes := #[T] }, ty, pos, af, g⟩ w (.ok (.value (.int .i64 n)) w) :=
  ⟨by simp [execOp, resolve, invoke, builtin, Builtin.len_, h1, underlying, program, hT.out, goInt, pure, bind, Sem.bind, Sem.run]⟩
/-- The function numbered f has a body. -/
class Enters (P : Program) (f : FuncId) : Prop where out : ∀ args w, (callFunc f args).run P w = .ok (.enter f args) w

theorem r_call0 {f : FuncId} {fo : Operand} {cl : List Value} {ats : Array TypeId} (hf : ρ fo = .func (.func f) #[] cl.toArray) [he : Enters P f]  :
    Runs P ρ ⟨d, .call { callee := .value fo, args := #[], argTypes := ats }, ty, pos, af, g⟩ w (.ok (.enter f (cl).toArray) w) :=
  ⟨by
    have e := he.out (cl).toArray w
    simp only [execOp, resolve, hf, Deferred.ofValue, List.map_toArray, List.map_cons, List.map_nil, hf] at *
    simpa [invoke, bind, Sem.bind, pure] using e⟩
theorem r_call1 {f : FuncId} {fo : Operand} {a0 : Operand} {v0 : Value} {cl : List Value} {ats : Array TypeId} (hf : ρ fo = .func (.func f) #[] cl.toArray) [he : Enters P f] (h0 : ρ a0 = v0) :
    Runs P ρ ⟨d, .call { callee := .value fo, args := #[a0], argTypes := ats }, ty, pos, af, g⟩ w (.ok (.enter f (v0 :: cl).toArray) w) :=
  ⟨by
    have e := he.out (v0 :: cl).toArray w
    simp only [execOp, resolve, hf, Deferred.ofValue, List.map_toArray, List.map_cons, List.map_nil, h0] at *
    simpa [invoke, bind, Sem.bind, pure] using e⟩
theorem r_call2 {f : FuncId} {fo : Operand} {a0 a1 : Operand} {v0 v1 : Value} {cl : List Value} {ats : Array TypeId} (hf : ρ fo = .func (.func f) #[] cl.toArray) [he : Enters P f] (h0 : ρ a0 = v0) (h1 : ρ a1 = v1) :
    Runs P ρ ⟨d, .call { callee := .value fo, args := #[a0, a1], argTypes := ats }, ty, pos, af, g⟩ w (.ok (.enter f (v0 :: v1 :: cl).toArray) w) :=
  ⟨by
    have e := he.out (v0 :: v1 :: cl).toArray w
    simp only [execOp, resolve, hf, Deferred.ofValue, List.map_toArray, List.map_cons, List.map_nil, h0, h1] at *
    simpa [invoke, bind, Sem.bind, pure] using e⟩
theorem r_call3 {f : FuncId} {fo : Operand} {a0 a1 a2 : Operand} {v0 v1 v2 : Value} {cl : List Value} {ats : Array TypeId} (hf : ρ fo = .func (.func f) #[] cl.toArray) [he : Enters P f] (h0 : ρ a0 = v0) (h1 : ρ a1 = v1) (h2 : ρ a2 = v2) :
    Runs P ρ ⟨d, .call { callee := .value fo, args := #[a0, a1, a2], argTypes := ats }, ty, pos, af, g⟩ w (.ok (.enter f (v0 :: v1 :: v2 :: cl).toArray) w) :=
  ⟨by
    have e := he.out (v0 :: v1 :: v2 :: cl).toArray w
    simp only [execOp, resolve, hf, Deferred.ofValue, List.map_toArray, List.map_cons, List.map_nil, h0, h1, h2] at *
    simpa [invoke, bind, Sem.bind, pure] using e⟩
theorem r_call4 {f : FuncId} {fo : Operand} {a0 a1 a2 a3 : Operand} {v0 v1 v2 v3 : Value} {cl : List Value} {ats : Array TypeId} (hf : ρ fo = .func (.func f) #[] cl.toArray) [he : Enters P f] (h0 : ρ a0 = v0) (h1 : ρ a1 = v1) (h2 : ρ a2 = v2) (h3 : ρ a3 = v3) :
    Runs P ρ ⟨d, .call { callee := .value fo, args := #[a0, a1, a2, a3], argTypes := ats }, ty, pos, af, g⟩ w (.ok (.enter f (v0 :: v1 :: v2 :: v3 :: cl).toArray) w) :=
  ⟨by
    have e := he.out (v0 :: v1 :: v2 :: v3 :: cl).toArray w
    simp only [execOp, resolve, hf, Deferred.ofValue, List.map_toArray, List.map_cons, List.map_nil, h0, h1, h2, h3] at *
    simpa [invoke, bind, Sem.bind, pure] using e⟩
theorem r_call5 {f : FuncId} {fo : Operand} {a0 a1 a2 a3 a4 : Operand} {v0 v1 v2 v3 v4 : Value} {cl : List Value} {ats : Array TypeId} (hf : ρ fo = .func (.func f) #[] cl.toArray) [he : Enters P f] (h0 : ρ a0 = v0) (h1 : ρ a1 = v1) (h2 : ρ a2 = v2) (h3 : ρ a3 = v3) (h4 : ρ a4 = v4) :
    Runs P ρ ⟨d, .call { callee := .value fo, args := #[a0, a1, a2, a3, a4], argTypes := ats }, ty, pos, af, g⟩ w (.ok (.enter f (v0 :: v1 :: v2 :: v3 :: v4 :: cl).toArray) w) :=
  ⟨by
    have e := he.out (v0 :: v1 :: v2 :: v3 :: v4 :: cl).toArray w
    simp only [execOp, resolve, hf, Deferred.ofValue, List.map_toArray, List.map_cons, List.map_nil, h0, h1, h2, h3, h4] at *
    simpa [invoke, bind, Sem.bind, pure] using e⟩
end

end Go.Gx
/-
  Memory: what a slice reads as, what a call owns, and what loads, stores, allocations and appends come to.
-/
namespace Go.Gx
open Go Go.RowKit
set_option linter.unusedSimpArgs false
set_option linter.unusedVariables false

/-! ### Kinds of elements -/
structure Ty (α : Type) where
  sz : Nat
  R : World → α → List Value → Prop
  len : ∀ {w x cs}, R w x cs → cs.length = sz
  mono : ∀ {w w' x cs}, Below w.heap.size w w' → R w x cs → R w' x cs

/-- A kind without pointers. -/
structure Flat (α : Type) where
  sz : Nat
  enc : α → List Value
  len : ∀ x, (enc x).length = sz
def Flat.ty {α : Type} (d : Flat α) : Ty α := ⟨d.sz, fun _ x cs => cs = d.enc x, fun h => by rw [h]; exact d.len _, fun _ h => h⟩
def fInt (k : IntKind) : Flat Int := ⟨1, fun x => [.int k x], fun _ => rfl⟩
/-- The address of element i. -/
def elemAddr : Value → Nat → Nat → Addr
  | .slice (some a) _ _, sz, i => a.add (i * sz)
  | _, _, _ => ⟨0, 0, none⟩

theorem add_add (a : Addr) (i j : Nat) : (a.add i).add j = a.add (i + j) := by
  unfold Addr.add
  by_cases hi : i = 0
  · subst hi; simp
  · by_cases hj : j = 0
    · subst hj; simp [hi]
    · simp [hi, hj, Nat.add_assoc]
theorem add_block (a : Addr) (i : Nat) : (a.add i).block = a.block := by unfold Addr.add; split <;> rfl
theorem add_zero (a : Addr) : a.add 0 = a := by simp [Addr.add]
theorem add_lit (b o j : Nat) : (⟨b, o, none⟩ : Addr).add j = ⟨b, o + j, none⟩ := by unfold Addr.add; split <;> simp_all

/-- The slice v reads as the list l. -/
def Rd {α : Type} (d : Ty α) (w : World) (v : Value) (l : List α) : Prop :=
  ∃ A c, v = .slice A l.length c ∧ l.length ≤ c ∧ ((l = [] ∧ (A = none → c = 0)) ∨ ∃ a, A = some a ∧ a.spot = none ∧ a.block < w.heap.size ∧
    ∀ j x, l[j]? = some x → ∃ cs, d.R w x cs ∧ ∀ i u, cs[i]? = some u → w.cell? (a.add (j * d.sz + i)) = some u)

theorem Rd.nil {α : Type} (d : Ty α) (w : World) : Rd d w (.slice none 0 0) [] := ⟨none, 0, rfl, Nat.le_refl _, .inl ⟨rfl, fun _ => rfl⟩⟩
theorem Rd.len {α : Type} {d : Ty α} {w : World} {v : Value} {l : List α} (h : Rd d w v l) : ∃ A c, v = .slice A l.length c := let ⟨A, c, e, _⟩ := h; ⟨A, c, e⟩

theorem Rd.mono {α : Type} {d : Ty α} {w w' : World} {v : Value} {l : List α} (h : Rd d w v l) (hb : Below w.heap.size w w') : Rd d w' v l := by
  obtain ⟨A, c, e, hc, h⟩ := h
  refine ⟨A, c, e, hc, ?_⟩
  rcases h with h | ⟨a, ea, hs, hlt, h⟩
  · exact .inl h
  · refine .inr ⟨a, ea, hs, Nat.lt_of_lt_of_le hlt hb.size, fun j x hj => ?_⟩
    obtain ⟨cs, hR, hcs⟩ := h j x hj
    exact ⟨cs, d.mono hb hR, fun i u hi => by rw [hb.cell (by rw [add_block]; exact hlt)]; exact hcs i u hi⟩

theorem Rd.elem {α : Type} {d : Ty α} {w : World} {v : Value} {l : List α} (h : Rd d w v l) {i : Nat} {x : α} (hx : l[i]? = some x) :
    ∃ cs, d.R w x cs ∧ (elemAddr v d.sz i).block < w.heap.size ∧ (elemAddr v d.sz i).spot = none ∧ ∀ j u, cs[j]? = some u → w.cell? ((elemAddr v d.sz i).add j) = some u := by
  obtain ⟨A, c, rfl, hc, h⟩ := h
  rcases h with h | ⟨a, rfl, hs, hlt, h⟩
  · obtain ⟨h, _⟩ := h; subst h; simp at hx
  · obtain ⟨cs, hR, hcs⟩ := h i x hx
    refine ⟨cs, hR, ?_, ?_, fun j u hj => ?_⟩
    · show (a.add (i * d.sz)).block < _; rw [add_block]; exact hlt
    · show (a.add (i * d.sz)).spot = none; unfold Addr.add; split <;> simp [hs]
    · show w.cell? ((a.add (i * d.sz)).add j) = some u
      rw [add_add]; exact hcs j u hj

/-- The head of a list of cells lies at an address. -/
def CellsAt (w : World) (a : Addr) (cs : List Value) : Prop := a.block < w.heap.size ∧ a.spot = none ∧ ∀ j u, cs[j]? = some u → w.cell? (a.add j) = some u
theorem CellsAt.mono {w w' : World} {a : Addr} {cs : List Value} (h : CellsAt w a cs) (hb : Below w.heap.size w w') : CellsAt w' a cs :=
  ⟨Nat.lt_of_lt_of_le h.1 hb.size, h.2.1, fun j u hj => by rw [hb.cell (by rw [add_block]; exact h.1)]; exact h.2.2 j u hj⟩
theorem CellsAt.drop {w : World} {a : Addr} {cs : List Value} (h : CellsAt w a cs) (n : Nat) : CellsAt w (a.add n) (cs.drop n) :=
  ⟨by rw [add_block]; exact h.1, by unfold Addr.add; split <;> simp [h.2.1], fun j u hj => by rw [add_add]; exact h.2.2 _ u (by rw [List.getElem?_drop] at hj; exact hj)⟩
theorem CellsAt.take {w : World} {a : Addr} {cs : List Value} (h : CellsAt w a cs) (n : Nat) : CellsAt w a (cs.take n) :=
  ⟨h.1, h.2.1, fun j u hj => h.2.2 j u (by rw [List.getElem?_take] at hj; split at hj; exact hj; cases hj)⟩

def nth {α : Type} [Inhabited α] (l : List α) (i : Int) : α := l.getD i.toNat default
theorem nth_get {α : Type} [Inhabited α] {l : List α} {i : Int} (h0 : 0 ≤ i) (h : i < l.length) : l[i.toNat]? = some (nth l i) := by
  have : i.toNat < l.length := by omega
  simp [nth, List.getD, List.getElem?_eq_getElem this]
theorem Rd.flat {α : Type} [Inhabited α] {d : Flat α} {w : World} {v : Value} {l : List α} (h : Rd d.ty w v l) {i : Int} (h0 : 0 ≤ i) (h1 : i < l.length) :
    CellsAt w (elemAddr v d.sz i.toNat) (d.enc (nth l i)) := by
  obtain ⟨cs, hR, hb, hs, hc⟩ := h.elem (nth_get h0 h1)
  have hR' : cs = d.enc (nth l i) := hR
  subst hR'
  exact ⟨hb, hs, hc⟩

/-! ### What a type is -/
class TF (P : Program) (T : TypeId) (agg : outParam Bool) (size : outParam Nat) : Prop where
  isAgg : ∀ w, (isAgg T).run P w = .ok agg w
  sizeOf : ∀ w, (sizeOf T).run P w = .ok size w

section
variable {P : Program} {ρ : Operand → Value} {w : World} {d : Option Tmp} {ty : TypeId} {pos : String} {af : Array Edge} {g : Option (Nat × Bool)} {T : TypeId} {s t : Operand}

theorem run_bind {α β : Type} {m : Sem α} {f : α → Sem β} {a : α} {w w' : World} (h : m.run P w = .ok a w') : (m >>= f).run P w = (f a).run P w' := by
  rw [Sem.run_bind, h]; rfl

theorem run_load1 {a : Addr} {v : Value} (h : w.cell? a = some v) : (load a).run P w = .ok v w := by simp [load, Sem.run, h]

theorem r_load {a : Addr} {v : Value} [hT : TF P T false 1] (ha : ρ s = .pointer (some a)) (hc : w.cell? a = some v) : Runs P ρ ⟨d, .load T s, ty, pos, af, g⟩ w (.ok (.value v) w) :=
  ⟨by
    simp only [execOp, ha, Instr.loadAt, Instr.sureAddr, loadVar]
    refine run_bind (a := v) ?_
    refine (run_bind (a := a) rfl).trans ?_
    refine (run_bind (hT.isAgg w)).trans ?_
    exact run_load1 hc⟩

theorem r_loadA {a : Addr} {cs : List Value} {n : Nat} [hT : TF P T true n] (ha : ρ s = .pointer (some a)) (hl : cs.length = n) (hc : CellsAt w a cs) : Runs P ρ ⟨d, .load T s, ty, pos, af, g⟩ w (.ok (.value (.agg cs.toArray)) w) :=
  ⟨by
    have hl : (loadCells a n).run P w = .ok cs.toArray w := by subst hl; exact run_loadCells_list (P := P) (w := w) a cs hc.2.2
    simp only [execOp, ha, Instr.loadAt, Instr.sureAddr, loadVar]
    refine run_bind (a := Value.agg cs.toArray) ?_
    refine (run_bind (a := a) rfl).trans ?_
    refine (run_bind (hT.isAgg w)).trans ?_
    refine (run_bind (hT.sizeOf w)).trans ?_
    exact run_bind hl⟩

theorem r_indexAddr {α : Type} {D : Ty α} {v : Value} {l : List α} {k : IntKind} {i : Int} {e : TypeId} {ag : Bool} [hT : IsSlice P T e] [hS : TF P e ag D.sz] (hR : Rd D w v l) (h1 : ρ s = v) (h2 : ρ t = .int k i)
    (h0 : 0 ≤ i) (hl : i < l.length) : Runs P ρ ⟨d, .indexAddr T s t, ty, pos, af, g⟩ w (.ok (.value (.pointer (some (elemAddr v D.sz i.toNat)))) w) := by
  obtain ⟨A, c, rfl, hc, h⟩ := hR
  rcases h with h | ⟨a, rfl, hs, hlt, h⟩
  · obtain ⟨h, _⟩ := h; subst h; simp at hl; omega
  · refine ⟨?_⟩
    have hs' := hS.sizeOf w
    simp only [execOp, h1, h2, Instr.indexAt, asIntOf]
    simp [run_underlying' hT.out, h0, hl, hs', elemAddr]

/-- Field j of struct type T lies off cells from its begin. -/
class FA (P : Program) (T : TypeId) (j : Nat) (off : outParam Nat) : Prop where out : ∀ (a : Addr) (w : World), (Instr.fieldAt T (.pointer (some a)) j).run P w = .ok (.pointer (some (a.add off))) w
theorem r_fieldAddr {a : Addr} {j off : Nat} [hF : FA P T j off] (h1 : ρ s = .pointer (some a)) : Runs P ρ ⟨d, .fieldAddr T s j, ty, pos, af, g⟩ w (.ok (.value (.pointer (some (a.add off)))) w) :=
  ⟨by simp only [execOp, h1]; exact run_bind (hF.out a w)⟩
/-- Field j of a struct's value. -/
class FV (P : Program) (T : TypeId) (j : Nat) (off : outParam Nat) : Prop where out : ∀ (cs : Array Value) (v : Value) (w : World), cs[off]? = some v → (Instr.field T (.agg cs) j).run P w = .ok v w
theorem r_field {cs : Array Value} {v : Value} {j off : Nat} [hF : FV P T j off] (h1 : ρ s = .agg cs) (hv : cs[off]? = some v) : Runs P ρ ⟨d, .field T s j, ty, pos, af, g⟩ w (.ok (.value v) w) :=
  ⟨by simp only [execOp, h1]; exact run_bind (hF.out cs v w hv)⟩
class FVA (P : Program) (T : TypeId) (j : Nat) (off : outParam Nat) (sz : outParam Nat) : Prop where out : ∀ (cs : Array Value) (w : World), (Instr.field T (.agg cs) j).run P w = .ok (.agg (cs.extract off (off + sz))) w
/-- An array's element, by its address and by value. -/
theorem r_indexAddrArr {a : Addr} {n sz : Nat} {k : IntKind} {i : Int} {e : TypeId} {ag : Bool} [hT : IsArr P T n e] [hS : TF P e ag sz] (h1 : ρ s = .pointer (some a)) (h2 : ρ t = .int k i)
    (h0 : 0 ≤ i) (hl : i < n) : Runs P ρ ⟨d, .indexAddr T s t, ty, pos, af, g⟩ w (.ok (.value (.pointer (some (a.add (i.toNat * sz))))) w) :=
  ⟨by
    have hs' := hS.sizeOf w
    simp only [execOp, h1, h2, Instr.indexAt, asIntOf]
    simp [run_underlying' hT.out, h0, hl, hs', Instr.sureAddr]⟩
theorem r_indexArr {cs : Array Value} {v : Value} {n : Nat} {k : IntKind} {i : Int} {e : TypeId} [hT : IsArr P T n e] [hF : TF P e false 1] (h1 : ρ s = .agg cs) (h2 : ρ t = .int k i)
    (h0 : 0 ≤ i) (hl : i < n) (hv : cs[i.toNat]? = some v) : Runs P ρ ⟨d, .index T s t, ty, pos, af, g⟩ w (.ok (.value v) w) :=
  ⟨by
    have hs' := hF.sizeOf w
    have ha' := hF.isAgg w
    simp only [execOp, h1, h2, Instr.index, asIntOf]
    simp [run_underlying' hT.out, h0, hl, hs', part, ha', hv]⟩
end

/-! ### What a call owns -/
inductive Ob where
  | var (b : Nat) (T : TypeId) (cs : List Value)
  | row (v : Value) (T : TypeId) (sz n : Nat) (xs : List Value)
  | raw (b : Nat) (o : Obj)
  | pr (b : Nat) (p : Obj → Prop)
def Ob.blk : Ob → Option Nat
  | .var b _ _ => some b
  | .row v _ _ _ _ => v.ownBlock
  | .raw b _ => some b
  | .pr b _ => some b
def Ob.ok (w : World) (B : Nat) : Ob → Prop
  | .var b T cs => B ≤ b ∧ w.heap[b]? = some (.cells cs.toArray T (0, 0))
  | .row v T sz n xs => w.ownsRow B T sz v n xs
  | .raw b o => B ≤ b ∧ w.heap[b]? = some o
  | .pr b p => B ≤ b ∧ ∃ o, w.heap[b]? = some o ∧ p o

theorem heap_lt {w : World} {b : Nat} {o : Obj} (h : w.heap[b]? = some o) : b < w.heap.size := (Array.getElem?_eq_some_iff.1 h).1
theorem Ob.ok.lt {w : World} {B : Nat} {o : Ob} (h : o.ok w B) : ∀ k, o.blk = some k → B ≤ k ∧ k < w.heap.size := by
  cases o with
  | var b T cs => intro k hk; cases hk; exact ⟨h.1, heap_lt h.2⟩
  | row v T sz n xs => exact World.ownsRow.lt h
  | raw b o => intro k hk; cases hk; exact ⟨h.1, heap_lt h.2⟩
  | pr b p => obtain ⟨h1, o, h2, h3⟩ := h; intro k hk; cases hk; exact ⟨h1, heap_lt h2⟩
/-- An object lives on where its block lies as it did. -/
theorem Ob.ok.move {w w' : World} {B : Nat} {o : Ob} (h : o.ok w B) (hb : ∀ k, o.blk = some k → w'.heap[k]? = w.heap[k]?) : o.ok w' B := by
  cases o with
  | var b T cs => exact ⟨h.1, (hb b rfl).trans h.2⟩
  | row v T sz n xs =>
    obtain ⟨h1, h2⟩ := h
    refine ⟨h1, ?_⟩
    rcases h2 with h2 | ⟨g, cap, cur, hv, hg, hh, r⟩
    · exact .inl h2
    · exact .inr ⟨g, cap, cur, hv, hg, (hb g (by subst hv; rfl)).trans hh, r⟩
  | raw b o => exact ⟨h.1, (hb b rfl).trans h.2⟩
  | pr b p => obtain ⟨h1, o, h2, h3⟩ := h; exact ⟨h1, o, (hb b rfl).trans h2, h3⟩

structure St (w0 w : World) (os : List Ob) : Prop where
  below : Below w0.heap.size w0 w
  ok : ∀ o ∈ os, o.ok w w0.heap.size
  apart : os.Pairwise fun a b => a.blk = none ∨ a.blk ≠ b.blk

theorem St.start (w : World) : St w w [] := ⟨Below.refl _ _, fun _ h => absurd h (List.not_mem_nil), List.Pairwise.nil⟩
theorem St.grow {w0 w w' : World} {os : List Ob} (S : St w0 w os) (h : Below w.heap.size w w') : St w0 w' os :=
  ⟨S.below.trans (h.mono S.below.size), fun o ho => (S.ok o ho).move fun k hk => h.block k ((S.ok o ho).lt k hk).2, S.apart⟩
theorem St.sub {w0 w : World} {os os' : List Ob} (S : St w0 w os) (h : os'.Sublist os) : St w0 w os' :=
  ⟨S.below, fun o ho => S.ok o (h.subset ho), S.apart.sublist h⟩
/-- A new object. -/
theorem St.new {w0 w w' : World} {os : List Ob} {o : Ob} (S : St w0 w os) (h : Below w.heap.size w w') (ho : o.ok w' w.heap.size) : St w0 w' (os ++ [o]) := by
  have S' := S.grow h
  have hle : w0.heap.size ≤ w.heap.size := S.below.size
  have ho' : o.ok w' w0.heap.size := by
    cases o with
    | var b T cs => exact ⟨Nat.le_trans hle ho.1, ho.2⟩
    | row v T sz n xs =>
      obtain ⟨h1, h2⟩ := ho
      refine ⟨h1, ?_⟩
      rcases h2 with h2 | ⟨g, cap, cur, hv, hg, r⟩
      · exact .inl h2
      · exact .inr ⟨g, cap, cur, hv, Nat.le_trans hle hg, r⟩
    | raw b o => exact ⟨Nat.le_trans hle ho.1, ho.2⟩
    | pr b p => exact ⟨Nat.le_trans hle ho.1, ho.2⟩
  refine ⟨S'.below, fun x hx => ?_, ?_⟩
  · rcases List.mem_append.1 hx with hx | hx
    · exact S'.ok x hx
    · rw [List.mem_singleton.1 hx]; exact ho'
  · refine List.pairwise_append.2 ⟨S'.apart, List.pairwise_singleton _ _, fun a ha b hb => ?_⟩
    rw [List.mem_singleton.1 hb]
    cases ha' : a.blk with
    | none => exact .inl rfl
    | some k =>
      refine .inr fun e => ?_
      have h1 := ((S.ok a ha).lt k ha').2
      have h2 := (ho.lt k e.symm).1
      omega

theorem mem_of_get {os : List Ob} {i : Nat} {o : Ob} (h : os[i]? = some o) : o ∈ os := List.mem_of_getElem? h

/-- Object i has been written: it is o' now; its block is the old one, or new. -/
theorem St.write {w0 w w' : World} {os : List Ob} {i : Nat} {o o' : Ob} (S : St w0 w os) (hi : os[i]? = some o) (hg : w.grownBy w' o.blk) (ho : o'.ok w' w0.heap.size)
    (hb : o'.blk = o.blk ∨ o'.blk = none ∨ ∃ k, o'.blk = some k ∧ w.heap.size ≤ k) : St w0 w' (os.set i o') := by
  have hio : i < os.length := by
    rcases Nat.lt_or_ge i os.length with h | h
    · exact h
    · rw [List.getElem?_eq_none h] at hi; cases hi
  have hoi : os[i] = o := by rw [List.getElem?_eq_getElem hio] at hi; exact Option.some.inj hi
  have hbl : Below w0.heap.size w0 w' := S.below.grown hg S.below.size fun k hk => ((S.ok o (mem_of_get hi)).lt k hk).1
  have other : ∀ (j : Nat) (x : Ob), os[j]? = some x → j ≠ i → x.blk = none ∨ x.blk ≠ o.blk := by
    intro j x hj hji
    have hjl : j < os.length := by
      rcases Nat.lt_or_ge j os.length with h | h
      · exact h
      · rw [List.getElem?_eq_none h] at hj; cases hj
    have hxj : os[j] = x := by rw [List.getElem?_eq_getElem hjl] at hj; exact Option.some.inj hj
    have hp := List.pairwise_iff_getElem.1 S.apart
    rcases Nat.lt_or_ge j i with h | h
    · have := hp j i hjl hio h; rw [hoi, hxj] at this; exact this
    · have := hp i j hio hjl (by omega); rw [hoi, hxj] at this
      rcases this with h1 | h1
      · cases hx : x.blk with
        | none => exact .inl rfl
        | some k => rw [h1]; exact .inr (by simp)
      · exact .inr fun e => h1 e.symm
  have keep : ∀ (j : Nat) (x : Ob), os[j]? = some x → j ≠ i → x.ok w' w0.heap.size := by
    intro j x hj hji
    have hx := S.ok x (mem_of_get hj)
    refine hx.move fun k hk => hg.block k (hx.lt k hk).2 fun e => ?_
    rcases other j x hj hji with h | h
    · rw [h] at hk; cases hk
    · exact h (hk.trans e)
  have apart' : ∀ (j : Nat) (x : Ob), os[j]? = some x → j ≠ i → x.blk = none ∨ x.blk ≠ o'.blk := by
    intro j x hj hji
    rcases hb with hb | hb | ⟨k, hb, hk⟩
    · rw [hb]; exact other j x hj hji
    · rw [hb]; cases hx : x.blk with
      | none => exact .inl rfl
      | some k => exact .inr (by simp)
    · cases hx : x.blk with
      | none => exact .inl rfl
      | some k' =>
        refine .inr fun e => ?_
        rw [hb] at e
        have := ((S.ok x (mem_of_get hj)).lt k' hx).2
        have : k' = k := Option.some.inj e
        omega
  refine ⟨hbl, fun x hx => ?_, ?_⟩
  · obtain ⟨j, hj⟩ := List.getElem?_of_mem hx
    rw [List.getElem?_set] at hj
    by_cases e : i = j
    · rw [if_pos e] at hj; simp [← e, hio] at hj; rw [← hj]; exact ho
    · rw [if_neg e] at hj; exact keep j x hj (Ne.symm e)
  · refine List.pairwise_iff_getElem.2 fun j j' hj hj' hlt => ?_
    have hj1 : j < os.length := by simpa using hj
    have hj2 : j' < os.length := by simpa using hj'
    rw [List.getElem_set, List.getElem_set]
    by_cases e : i = j
    · rw [if_pos e, if_neg (by omega)]
      rcases apart' j' _ (List.getElem?_eq_getElem hj2) (by omega) with h | h
      · cases ho' : o'.blk with
        | none => exact .inl rfl
        | some k => rw [h]; exact .inr (by simp)
      · exact .inr fun e => h e.symm
    · by_cases e' : i = j'
      · rw [if_neg e, if_pos e']; exact apart' j _ (List.getElem?_eq_getElem hj1) (Ne.symm e)
      · rw [if_neg e, if_neg e']; exact List.pairwise_iff_getElem.1 S.apart j j' hj1 hj2 hlt

/-- What a variable holds lies at its address. -/
theorem St.var {w0 w : World} {os : List Ob} (S : St w0 w os) {i : Nat} {b : Nat} {T : TypeId} {cs : List Value} (hi : os[i]? = some (.var b T cs)) : CellsAt w ⟨b, 0, none⟩ cs := by
  have h := (S.ok _ (mem_of_get hi)).2
  refine ⟨heap_lt h, rfl, fun j u hj => ?_⟩
  have : (⟨b, 0, none⟩ : Addr).add j = ⟨b, j, none⟩ := by unfold Addr.add; split <;> simp_all
  rw [this]
  simpa [World.cell?, h] using hj
theorem St.rd {α : Type} {w0 w : World} {os : List Ob} (S : St w0 w os) (D : Flat α) {i : Nat} {v : Value} {T : TypeId} {l : List α} (hi : os[i]? = some (.row v T D.sz l.length (l.flatMap D.enc))) : Rd D.ty w v l := by
  have h : w.ownsRow w0.heap.size T D.sz v l.length (l.flatMap D.enc) := S.ok _ (mem_of_get hi)
  have hlt := (Ob.ok.lt (o := .row v T D.sz l.length (l.flatMap D.enc)) h)
  rcases h.2 with ⟨h1, h2⟩ | ⟨g, cap, cur, hv, hg, hh, hn, hm, hc, ht⟩
  · have : l = [] := List.length_eq_zero_iff.1 h2
    subst this; subst h1; exact Rd.nil _ _
  · refine ⟨some ⟨g, 0, none⟩, cap, hv, hn, .inr ⟨_, rfl, rfl, heap_lt hh, fun j x hj => ⟨_, rfl, fun i u hu => ?_⟩⟩⟩
    have hcl := h.cells (g := g) (by rw [hv]; rfl)
    refine hcl _ u ?_
    have hjl : j < l.length := by
      rcases Nat.lt_or_ge j l.length with h | h
      · exact h
      · rw [List.getElem?_eq_none h] at hj; cases hj
    have key : ∀ (l : List α) (j : Nat) (x : α), l[j]? = some x → ∀ i u, (D.enc x)[i]? = some u → (l.flatMap D.enc)[j * D.sz + i]? = some u := by
      intro l
      induction l with
      | nil => intro j x hj; simp at hj
      | cons y r ih =>
        intro j x hj i u hu
        rw [List.flatMap_cons]
        cases j with
        | zero =>
          simp at hj; subst hj
          rw [Nat.zero_mul, Nat.zero_add, List.getElem?_append_left (by rcases Nat.lt_or_ge i (D.enc y).length with h | h; exact h; rw [List.getElem?_eq_none h] at hu; cases hu)]; exact hu
        | succ j =>
          rw [List.getElem?_append_right (by rw [D.len, Nat.add_mul]; omega), D.len, show (j + 1) * D.sz + i - D.sz = j * D.sz + i by rw [Nat.add_mul]; omega]
          exact ih j x (by simpa using hj) i u hu
    exact key l j x hj i u hu

end Go.Gx
/-
  Operations that change memory.
-/
namespace Go.Gx
open Go Go.RowKit
set_option linter.unusedSimpArgs false
set_option linter.unusedVariables false

theorem Enters.of {P : Program} {f : FuncId} {fn : Func} (hf : P.funcs[f]? = some fn) (hb : fn.body.isNone = false) (hn : (fn.name == "runtime.NumGoroutine") = false) : Enters P f := ⟨fun args w => by
  unfold callFunc
  refine (Sem.run_bind _ _ _ _).trans ?_
  show (Result.ok P w).andThen _ = _
  simp only [Result.andThen_ok, hf, hb, hn]
  rfl⟩

section
variable {P : Program} {n : Nat} {ops : Array Oper} {Q : Post} {σ : Nat → Value} {w w' w0 : World} {o : Oper} {rest : List Oper} {os : List Ob}

theorem st_valE {R : Value → World → Prop} (hw : wantS o ops n σ = true) (h : ∃ v w', Runs P (opv (cut n σ)) o w (.ok (.value v) w') ∧ R v w')
    (k : ∀ v w', R v w' → wl P n ops Q rest (updO σ o.dst v) w') : wl P n ops Q (o :: rest) σ w :=
  let ⟨v, w', h1, h2⟩ := h; st_val hw h1 (k v w' h2)
theorem st_skipE {R : World → Prop} (hw : wantS o ops n σ = true) (h : ∃ w', Runs P (opv (cut n σ)) o w (.ok .skip w') ∧ R w')
    (k : ∀ w', R w' → wl P n ops Q rest (updO σ o.dst undef) w') : wl P n ops Q (o :: rest) σ w :=
  let ⟨w', h1, h2⟩ := h; st_skip hw h1 (k w' h2)
end

/-- A type's zero value, its cells and bytes. -/
class TI (P : Program) (T : TypeId) (z : outParam Value) (size bytes : outParam Nat) : Prop where out : ∃ i, P.info? T = some i ∧ i.zero = some z ∧ i.size = size ∧ i.bytes = bytes
theorem TI.of {P : Program} {T : TypeId} {z : Value} {size bytes : Nat} (h : (P.info? T).map (fun i => (i.zero, i.size, i.bytes)) = some (some z, size, bytes)) : TI P T z size bytes := by
  cases hi : P.info? T with
  | none => rw [hi] at h; cases h
  | some i => rw [hi] at h; simp at h; exact ⟨⟨i, hi, h.1, h.2.1, h.2.2⟩⟩

section
variable {P : Program} {ρ : Operand → Value} {w w0 : World} {d : Option Tmp} {ty : TypeId} {pos : String} {af : Array Edge} {g : Option (Nat × Bool)} {T : TypeId} {s t : Operand} {os : List Ob}

theorem run_typeInfo' {i : TypeInfo} (hi : P.info? T = some i) : (typeInfo T).run P w = .ok i w := by
  unfold typeInfo; refine (run_bind (a := P) rfl).trans ?_; rw [hi]; rfl
theorem run_zeroValue' {i : TypeInfo} {z : Value} (hi : P.info? T = some i) (hz : i.zero = some z) : (zeroValue T).run P w = .ok z w := by
  unfold zeroValue; refine (run_bind (run_typeInfo' hi)).trans ?_; rw [hz]; rfl
theorem run_sizeOf' {i : TypeInfo} (hi : P.info? T = some i) : (sizeOf T).run P w = .ok i.size w := by
  unfold sizeOf; refine (run_bind (run_typeInfo' hi)).trans ?_; rfl
theorem below_alloc (w : World) (o : Obj) : Below w.heap.size w (w.alloc o) := (Below.refl _ _).alloc (Nat.le_refl _) o

theorem r_alloc {z : Value} {size bytes : Nat} [hI : TI P T z size bytes] (S : St w0 w os) :
    ∃ v w', Runs P ρ ⟨d, .alloc T, ty, pos, af, g⟩ w (.ok (.value v) w') ∧ ∃ b, v = .pointer (some ⟨b, 0, none⟩) ∧ Below w.heap.size w w' ∧ St w0 w' (os ++ [.var b T z.cells.toList]) := by
  obtain ⟨i, hi, hz, _, _⟩ := hI.out
  refine ⟨_, w.alloc (.cells z.cells T), ⟨?_⟩, w.heap.size, rfl, below_alloc _ _, S.new (below_alloc _ _) ⟨Nat.le_refl _, by simpa using heap_alloc_new w _⟩⟩
  simp only [execOp, Instr.alloc]
  refine run_bind (a := Value.pointer (some ⟨w.heap.size, 0, none⟩)) ?_
  exact run_bind (run_zeroValue' hi hz)

theorem r_box {v : Value} (S : St w0 w os) (h1 : ρ s = v) :
    ∃ v' w', Runs P ρ ⟨d, .box T s, ty, pos, af, g⟩ w (.ok (.value v') w') ∧ ∃ b, v' = .pointer (some ⟨b, 0, none⟩) ∧ Below w.heap.size w w' ∧ St w0 w' (os ++ [.var b T v.cells.toList]) := by
  refine ⟨_, w.alloc (.cells v.cells T), ⟨?_⟩, w.heap.size, rfl, below_alloc _ _, S.new (below_alloc _ _) ⟨Nat.le_refl _, by simpa using heap_alloc_new w _⟩⟩
  simp only [execOp, h1, Instr.box]
  rfl

def splice (cs : List Value) (o : Nat) (vs : List Value) : List Value := cs.take o ++ vs ++ cs.drop (o + vs.length)

theorem setRow_size (w : World) (g : Nat) (cs : Array Value) : (w.setRow g cs).heap.size = w.heap.size := by simp [World.setRow]
theorem setRow_grown (w : World) (g : Nat) (cs : Array Value) : w.grownBy (w.setRow g cs) (some g) :=
  ⟨rfl, rfl, rfl, by rw [setRow_size]; exact Nat.le_refl _, fun k _ hk => setRow_other w g k cs (fun e => hk (by rw [e]))⟩

theorem r_storeVar {b o i size : Nat} {T' : TypeId} {cs : List Value} {v : Value} {ag : Bool} [hS : TF P T ag size] (S : St w0 w os) (hi : os[i]? = some (.var b T' cs)) (h1 : ρ s = .pointer (some ⟨b, o, none⟩)) (h2 : ρ t = v)
    (hv : v.cells.size = size) (hfit : o + size ≤ cs.length) (h1c : ∀ u ∈ v.cells.toList, u.oneCell' = true) :
    ∃ w', Runs P ρ ⟨d, .store T s t, ty, pos, af, g⟩ w (.ok .skip w') ∧ St w0 w' (os.set i (.var b T' (splice cs o v.cells.toList))) := by
  have hh := (S.ok _ (mem_of_get hi))
  have hst := run_storeCells_at P b o T' v.cells.toList 0 cs.toArray w hh.2 (by simp; omega) h1c
  simp only [Nat.add_zero] at hst
  have hrun : Runs P ρ ⟨d, .store T s t, ty, pos, af, g⟩ w (.ok .skip (w.setRow b (cs.take o ++ v.cells.toList ++ cs.drop (o + v.cells.toList.length)).toArray)) := ⟨by
    simp only [execOp, h1, h2, Instr.storeAt, Instr.sureAddr, storeVar]
    have hne : ¬ (v.cells.size ≠ size) := by omega
    refine run_bind (a := ()) ?_
    refine (run_bind (a := (⟨b, o, none⟩ : Addr)) rfl).trans ?_
    refine (run_bind (hS.sizeOf w)).trans ?_
    rw [if_neg hne]
    exact hst⟩
  refine ⟨_, hrun, ?_⟩
  refine S.write hi (setRow_grown w b _) ⟨hh.1, setRow_heap w b _ _ T' (0, 0) hh.2⟩ (.inl rfl)

theorem r_storeRow {b o i size sz m cap : Nat} {T' : TypeId} {xs : List Value} {v : Value} {ag : Bool} [hS : TF P T ag size] (S : St w0 w os) (hi : os[i]? = some (.row (.slice (some ⟨b, 0, none⟩) m cap) T' sz m xs)) (h1 : ρ s = .pointer (some ⟨b, o, none⟩)) (h2 : ρ t = v)
    (hv : v.cells.size = size) (hfit : o + size ≤ xs.length) (h1c : ∀ u ∈ v.cells.toList, u.oneCell' = true) :
    ∃ w', Runs P ρ ⟨d, .store T s t, ty, pos, af, g⟩ w (.ok .skip w') ∧ St w0 w' (os.set i (.row (.slice (some ⟨b, 0, none⟩) m cap) T' sz m (splice xs o v.cells.toList))) := by
  have hh : w.ownsRow w0.heap.size T' sz (.slice (some ⟨b, 0, none⟩) m cap) m xs := (S.ok _ (mem_of_get hi))
  obtain ⟨hl, h⟩ := hh
  rcases h with ⟨h, _⟩ | ⟨g', cap', cur, hv', hb, hg, hn, hm, hcs, htk⟩
  · cases h
  · cases hv'
    have hcur : xs.length ≤ cur.size := by rw [hl, hcs]; exact Nat.mul_le_mul_right _ hn
    have hst := run_storeCells_at P b o T' v.cells.toList 0 cur w hg (by simp; omega) h1c
    simp only [Nat.add_zero] at hst
    have hrun : Runs P ρ ⟨d, .store T s t, ty, pos, af, g⟩ w (.ok .skip (w.setRow b (cur.toList.take o ++ v.cells.toList ++ cur.toList.drop (o + v.cells.toList.length)).toArray)) := ⟨by
      simp only [execOp, h1, h2, Instr.storeAt, Instr.sureAddr, storeVar]
      have hne : ¬ (v.cells.size ≠ size) := by omega
      refine run_bind (a := ()) ?_
      refine (run_bind (a := (⟨b, o, none⟩ : Addr)) rfl).trans ?_
      refine (run_bind (hS.sizeOf w)).trans ?_
      rw [if_neg hne]
      exact hst⟩
    refine ⟨_, hrun, ?_⟩
    refine S.write hi (setRow_grown w b _) ⟨?_, .inr ⟨b, cap, _, rfl, hb, setRow_heap w b _ _ T' (0, 0) hg, hn, hm, ?_, ?_⟩⟩ (.inl rfl)
    · rw [← hl]; simp [splice]; omega
    · rw [← hcs]; simp; omega
    · have hlv : v.cells.toList.length = size := by simpa using hv
      have hxs : m * sz = xs.length := hl.symm
      rw [hxs] at htk ⊢
      simp only [splice]
      have hq : ∀ k, k < xs.length → cur.toList[k]? = xs[k]? := fun k hk => by
        have h := congrArg (fun l : List Value => l[k]?) htk
        simpa [List.getElem?_take, hk] using h
      apply List.ext_getElem?
      intro j
      simp only [List.getElem?_take, List.getElem?_append, List.length_append, List.length_take, List.getElem?_drop, Array.length_toList, hlv]
      have : xs.length ≤ cur.size := hcur
      repeat' split
      all_goals first | rfl | omega | (congr 1; omega) | skip
      · exact hq j (by omega)
      · rw [show o + size + (j - (min o cur.size + size)) = j by omega, show o + size + (j - (min o xs.length + size)) = j by omega]; exact hq j (by omega)
      · exact (List.getElem?_eq_none (by omega)).symm

theorem foldl_set (l : List Value) : ∀ (cs : Array Value) (k : Nat), k + l.length ≤ cs.size →
    (l.zipIdx k).foldl (fun cs (x : Value × Nat) => cs.setIfInBounds x.2 x.1) cs = (cs.toList.take k ++ l ++ cs.toList.drop (k + l.length)).toArray := by
  induction l with
  | nil => intro cs k hk; simp
  | cons x r ih =>
    intro cs k hk
    rw [List.zipIdx_cons, List.foldl_cons, ih _ _ (by simp at hk ⊢; omega)]
    congr 1
    apply List.ext_getElem?
    intro q
    simp only [Array.toList_setIfInBounds, List.getElem?_append, List.length_append, List.length_take, List.getElem?_take, List.length_set, Array.length_toList, List.getElem?_set, List.getElem?_drop, List.length_cons, List.getElem?_cons]
    simp at hk
    repeat' split
    all_goals first | rfl | omega | (congr 1; omega) | (simp; try omega)

def parts (k : Nat) : List Value → List (Nat × Value)
  | [] => []
  | v :: r => (k, v) :: parts (k + 1) r
def cellsOf (vs : List Value) : List Value := vs.flatMap fun v => v.cells.toList

theorem fill_parts (size : Nat) (vs : List Value) : ∀ (k : Nat) (cs : Array Value), (∀ v ∈ vs, v.cells.size = size) → (k + vs.length) * size ≤ cs.size →
    Instr.fill (fun j => some (j * size, size)) cs (parts k vs) = some (cs.toList.take (k * size) ++ cellsOf vs ++ cs.toList.drop ((k + vs.length) * size)).toArray := by
  induction vs with
  | nil => intro k cs _ _; simp [parts, Instr.fill, cellsOf]
  | cons v r ih =>
    intro k cs hv hs
    have h1 : v.cells.size = size := hv v (List.mem_cons_self ..)
    have hle : (k + 1) * size ≤ (k + (v :: r).length) * size := Nat.mul_le_mul_right _ (by simp)
    have hk1 : (k + 1) * size = k * size + size := by rw [Nat.add_mul, Nat.one_mul]
    have hfold : v.cells.zipIdx.foldl (fun cs (x : Value × Nat) => cs.setIfInBounds (k * size + x.2) x.1) cs = (cs.toList.take (k * size) ++ v.cells.toList ++ cs.toList.drop ((k + 1) * size)).toArray := by
      have e : (v.cells.toList.zipIdx.map fun x : Value × Nat => (x.1, k * size + x.2)) = v.cells.toList.zipIdx (k * size) := by
        apply List.ext_getElem?
        intro j
        simp [List.getElem?_zipIdx, Function.comp_def]
      rw [← Array.foldl_toList, Array.toList_zipIdx]
      have := foldl_set v.cells.toList cs (k * size) (by simp [h1]; omega)
      rw [← e, List.foldl_map] at this
      rw [this, hk1, Array.length_toList, h1]
    have hr : (k + (r.length + 1)) * size ≤ cs.size := by simpa using hs
    have e3 : (k + 1 + r.length) * size = (k + (r.length + 1)) * size := by rw [show k + 1 + r.length = k + (r.length + 1) by omega]
    have hle' : (k + 1) * size ≤ (k + (r.length + 1)) * size := by simpa using hle
    have hsz' : (k + 1 + r.length) * size ≤ (cs.toList.take (k * size) ++ v.cells.toList ++ cs.toList.drop ((k + 1) * size)).toArray.size := by
      rw [e3]; simp only [List.size_toArray, List.length_append, List.length_take, List.length_drop, Array.length_toList, h1]; omega
    unfold parts Instr.fill
    simp only
    rw [if_neg (by simp [h1]; omega), hfold, ih (k + 1) _ (fun u hu => hv u (List.mem_cons_of_mem _ hu)) hsz']
    have hkl : (k * size) ≤ cs.size := by omega
    congr 2
    simp only [cellsOf, List.flatMap_cons, e3, List.length_cons]
    have hlen : (cs.toList.take (k * size) ++ v.cells.toList).length = (k + 1) * size := by simp [h1]; omega
    have hge : (k + 1) * size ≤ (k + (r.length + 1)) * size := by simpa using hle
    rw [show (cs.toList.take (k * size) ++ v.cells.toList ++ cs.toList.drop ((k + 1) * size)).take ((k + 1) * size) = cs.toList.take (k * size) ++ v.cells.toList by rw [← hlen, List.take_left' rfl]]
    rw [show (cs.toList.take (k * size) ++ v.cells.toList ++ cs.toList.drop ((k + 1) * size)).drop ((k + (r.length + 1)) * size) = cs.toList.drop ((k + (r.length + 1)) * size) by
      rw [List.drop_append, hlen, List.drop_eq_nil_of_le (by rw [hlen]; exact hge), List.nil_append, List.drop_drop]; congr 1; omega]
    simp [List.append_assoc]

/-- A row made by a literal. -/
theorem r_lit {e : TypeId} {size bytes : Nat} {z : Value} {ps : Array (Nat × Operand)} {vs : List Value} {m : Nat} [hT : IsSlice P T e] [hI : TI P e z size bytes] (S : St w0 w os) (hp : (ps.map fun (i, x) => (i, ρ x)) = (parts 0 vs).toArray) (hm : m = vs.length)
    (hz : z.cells.size = size) (h0 : 0 < m * size) (hb : m * size ≤ 16777216)
    (hv : ∀ v ∈ vs, v.cells.size = size) :
    ∃ v' w', Runs P ρ ⟨d, .buildSlice T m ps, ty, pos, af, g⟩ w (.ok (.value v') w') ∧ ∃ b, v' = .slice (some ⟨b, 0, none⟩) m m ∧ Below w.heap.size w w' ∧ CellsAt w' ⟨b, 0, none⟩ (cellsOf vs) ∧ St w0 w' (os ++ [.row v' e size m (cellsOf vs)]) := by
  obtain ⟨i, hi, hz', hs, _⟩ := hI.out
  subst hs
  subst hm
  have hsz : (cellsOf vs).length = vs.length * i.size := by
    clear hp h0 hb
    induction vs with
    | nil => simp [cellsOf]
    | cons v r ih =>
      have h1 := ih (fun u hu => hv u (List.mem_cons_of_mem _ hu))
      have h2 := hv v (List.mem_cons_self ..)
      simp only [cellsOf, List.flatMap_cons, List.length_append, List.length_cons, Array.length_toList] at *
      rw [h1, h2, Nat.add_mul]; omega
  have hfill : Instr.fill (fun j => some (j * i.size, i.size)) ((Array.range (vs.length * i.size)).map (z.cells[· % z.cells.size]!)) (parts 0 vs) = some (cellsOf vs).toArray := by
    rw [fill_parts i.size vs 0 _ hv (by simp)]
    simp
  refine ⟨_, w.alloc (.cells (cellsOf vs).toArray e), ⟨?_⟩, w.heap.size, rfl, below_alloc _ _, ?_, ?_⟩
  · have hle : ¬ (vs.length * i.size > 2 ^ 24) := by omega
    have hne : ¬ (vs.length * i.size = 0) := by omega
    simp only [execOp, Instr.buildSlice]
    rw [hp]
    refine run_bind (a := Value.slice (some ⟨w.heap.size, 0, none⟩) vs.length vs.length) ?_
    refine (run_bind (run_underlying' hT.out)).trans ?_
    refine (run_bind (run_sizeOf' hi)).trans ?_
    simp only [hle, if_false, hne]
    refine (run_bind (run_zeroValue' hi hz')).trans ?_
    refine (run_bind (a := z.cells) rfl).trans ?_
    simp only [hfill]
    rfl
  · refine ⟨by simp, rfl, fun j u hj => ?_⟩
    have : (⟨w.heap.size, 0, none⟩ : Addr).add j = ⟨w.heap.size, j, none⟩ := by unfold Addr.add; split <;> simp_all
    rw [this, World.cell?_alloc_new]; simpa using hj
  · refine S.new (below_alloc _ _) ?_
    by_cases hlen : vs.length ≤ maxLen
    · have := World.ownsRow_lit (base := w.heap.size) (e := e) (size := i.size) w (cellsOf vs).toArray vs.length (Nat.le_refl _) hlen (by simpa using hsz)
      show World.ownsRow _ _ _ _ _ _ _
      simpa using this
    · exfalso
      have : vs.length ≤ vs.length * i.size := Nat.le_mul_of_pos_right _ (by rcases Nat.eq_zero_or_pos i.size with h | h; rw [h] at h0; omega; exact h)
      simp [maxLen] at hlen; omega

/-- append(v, x..): v a row of the call's own. -/
theorem r_append {e : TypeId} {size bytes : Nat} {z v : Value} {m i : Nat} {xs news : List Value} {ad : Addr} {q c : Nat} [hT : IsSlice P T e] [hI : TI P e z size bytes] (S : St w0 w os) (hi : os[i]? = some (.row v e size m xs))
    (hz : z.cells.size = size) (h0 : 0 < size)
    (h1 : ρ s = v) (h2 : ρ t = .slice (some ad) q c) (hc : CellsAt w ad news) (hl : news.length = q * size) (h1c : ∀ u ∈ news, u.oneCell' = true)
    (h63 : m + q ≤ 9223372036854775807) (hb : (m + q) * bytes ≤ 140737488355328) :
    ∃ v' w', Runs P ρ ⟨d, .call { callee := .builtin .append, args := #[s, t], argTypes := #[T, T] }, ty, pos, af, g⟩ w (.ok (.value v') w') ∧ w.grownBy w' v.ownBlock ∧ St w0 w' (os.set i (.row v' e size (m + q) (xs ++ news))) := by
  obtain ⟨ti, hi', hz', hs, hby⟩ := hI.out
  have how : w.ownsRow w0.heap.size e size v m xs := S.ok _ (mem_of_get hi)
  obtain ⟨v', w', hr, how', hg, _, hbk⟩ := run_append_own_at (P := P) w w0.heap.size T ty e ti z size bytes hT.out hi' hz' hs hby hz h0 v m xs how ad q c news hl hc.2.2 h1c (by simpa [maxLen] using h63) hb S.below.size
  refine ⟨v', w', ⟨?_⟩, hg, S.write hi hg how' ?_⟩
  · simp only [execOp, resolve, List.map_toArray, List.map_cons, List.map_nil, h1, h2]
    simp only [invoke, builtin]
    refine (run_bind (a := { target := _, args := _ }) rfl).trans ?_
    exact run_bind hr
  · rcases hbk with h | h
    · exact .inl h
    · exact .inr (.inr ⟨_, h, Nat.le_refl _⟩)

/-! ### Loads of what is told -/
theorem r_loadElem {α : Type} [Inhabited α] {D : Flat α} {v : Value} {l : List α} {i : Int} [TF P T true D.sz] (hR : Rd D.ty w v l) (h1 : ρ s = .pointer (some (elemAddr v D.sz i.toNat))) (h0 : 0 ≤ i) (hl : i < l.length) :
    Runs P ρ ⟨d, .load T s, ty, pos, af, g⟩ w (.ok (.value (.agg (D.enc (nth l i)).toArray)) w) := r_loadA h1 (D.len _) (hR.flat h0 hl)
theorem r_loadElem1 {α : Type} [Inhabited α] {D : Flat α} {v u : Value} {l : List α} {i : Int} [TF P T false 1] (hR : Rd D.ty w v l) (h1 : ρ s = .pointer (some (elemAddr v D.sz i.toNat))) (h0 : 0 ≤ i) (hl : i < l.length) (hv : (D.enc (nth l i))[0]? = some u) :
    Runs P ρ ⟨d, .load T s, ty, pos, af, g⟩ w (.ok (.value u) w) := r_load h1 (by have := (hR.flat h0 hl).2.2 0 u hv; rwa [add_zero] at this)
theorem r_loadElemF {α : Type} [Inhabited α] {D : Flat α} {v u : Value} {l : List α} {i : Int} {off : Nat} [TF P T false 1] (hR : Rd D.ty w v l) (h1 : ρ s = .pointer (some ((elemAddr v D.sz i.toNat).add off))) (h0 : 0 ≤ i) (hl : i < l.length) (hv : (D.enc (nth l i))[off]? = some u) :
    Runs P ρ ⟨d, .load T s, ty, pos, af, g⟩ w (.ok (.value u) w) := r_load h1 ((hR.flat h0 hl).2.2 off u hv)
theorem r_loadVar {i b o : Nat} {T' : TypeId} {cs : List Value} {u : Value} [TF P T false 1] (S : St w0 w os) (hi : os[i]? = some (.var b T' cs)) (h1 : ρ s = .pointer (some ⟨b, o, none⟩)) (hv : cs[o]? = some u) :
    Runs P ρ ⟨d, .load T s, ty, pos, af, g⟩ w (.ok (.value u) w) := r_load h1 (by have := (S.var hi).2.2 o u hv; rwa [add_lit, Nat.zero_add] at this)
theorem r_loadVarA {i b o sz : Nat} {T' : TypeId} {cs cs' : List Value} [TF P T true sz] (S : St w0 w os) (hi : os[i]? = some (.var b T' cs)) (h1 : ρ s = .pointer (some ⟨b, o, none⟩)) (hc : (cs.drop o).take sz = cs') (hl : cs'.length = sz) :
    Runs P ρ ⟨d, .load T s, ty, pos, af, g⟩ w (.ok (.value (.agg cs'.toArray)) w) := r_loadA h1 hl (by subst hc; have := ((S.var hi).drop o).take sz; rwa [add_lit, Nat.zero_add] at this)
/-- Addresses that are written out, and those of elements. -/
theorem r_fieldAddrL {b o j off : Nat} [hF : FA P T j off] (h1 : ρ s = .pointer (some ⟨b, o, none⟩)) : Runs P ρ ⟨d, .fieldAddr T s j, ty, pos, af, g⟩ w (.ok (.value (.pointer (some ⟨b, o + off, none⟩))) w) := by
  have := r_fieldAddr (P := P) (w := w) (d := d) (ty := ty) (pos := pos) (af := af) (g := g) h1 (hF := hF); rwa [add_lit] at this
theorem r_fieldAddrA {a : Addr} {o j off : Nat} [hF : FA P T j off] (h1 : ρ s = .pointer (some (a.add o))) : Runs P ρ ⟨d, .fieldAddr T s j, ty, pos, af, g⟩ w (.ok (.value (.pointer (some (a.add (o + off))))) w) := by
  have := r_fieldAddr (P := P) (w := w) (d := d) (ty := ty) (pos := pos) (af := af) (g := g) h1 (hF := hF); rwa [add_add] at this
theorem r_indexAddrArrL {b o n sz : Nat} {k : IntKind} {i : Int} {e : TypeId} {ag : Bool} [hT : IsArr P T n e] [hS : TF P e ag sz] (h1 : ρ s = .pointer (some ⟨b, o, none⟩)) (h2 : ρ t = .int k i)
    (h0 : 0 ≤ i) (hl : i < n) : Runs P ρ ⟨d, .indexAddr T s t, ty, pos, af, g⟩ w (.ok (.value (.pointer (some ⟨b, o + i.toNat * sz, none⟩))) w) := by
  have := r_indexAddrArr (P := P) (w := w) (d := d) (ty := ty) (pos := pos) (af := af) (g := g) h1 h2 h0 hl (hT := hT) (hS := hS); rwa [add_lit] at this
/-! ### Cuts -/
def sliceV : Value → Nat → Nat → Nat → Value
  | .slice A _ c, lo, hi, sz => .slice (if c = lo then A else A.map (·.add (lo * sz))) (hi - lo) (c - lo)
  | v, _, _, _ => v
theorem Rd.cut {α : Type} {D : Ty α} {v : Value} {l : List α} (h : Rd D w v l) {lo hi : Nat} (h1 : lo ≤ hi) (h2 : hi ≤ l.length) : Rd D w (sliceV v lo hi D.sz) ((l.take hi).drop lo) := by
  obtain ⟨A, c, rfl, hc, h⟩ := h
  have hlen : ((l.take hi).drop lo).length = hi - lo := by simp; omega
  refine ⟨_, c - lo, by rw [hlen]; rfl, by omega, ?_⟩
  rcases h with ⟨h, hA⟩ | ⟨a, rfl, hs, hlt, h⟩
  · subst h
    have : lo = 0 := by simp at h2; omega
    subst this
    refine .inl ⟨by simp, fun hn => ?_⟩
    by_cases e : c = 0
    · simp [e]
    · rw [if_neg e] at hn; have := hA (by simpa using hn); omega
  · by_cases e : c = lo
    · refine .inl ⟨List.eq_nil_of_length_eq_zero (by omega), fun hn => ?_⟩
      rw [if_pos e] at hn; cases hn
    · rw [if_neg e]
      refine .inr ⟨a.add (lo * D.sz), rfl, by unfold Addr.add; split <;> simp [hs], by rw [add_block]; exact hlt, fun j x hj => ?_⟩
      rw [List.getElem?_drop, List.getElem?_take] at hj
      split at hj
      · obtain ⟨cs, hR, hcs⟩ := h (lo + j) x hj
        refine ⟨cs, hR, fun i u hu => ?_⟩
        rw [add_add, show lo * D.sz + (j * D.sz + i) = (lo + j) * D.sz + i by rw [Nat.add_mul]; omega]
        exact hcs i u hu
      · cases hj
theorem r_sliceHi {α : Type} {D : Ty α} {v : Value} {l : List α} {e : TypeId} {ag : Bool} {b : Operand} {k' : IntKind} {hi : Int} [hT : IsSlice P T e] [hS : TF P e ag D.sz] (hR : Rd D w v l) (h1 : ρ s = v) (h3 : ρ b = .int k' hi)
    (h4 : 0 ≤ hi) (h5 : hi ≤ l.length) : Runs P ρ ⟨d, .slice T s none (some b) none, ty, pos, af, g⟩ w (.ok (.value (sliceV v 0 hi.toNat D.sz)) w) := by
  obtain ⟨A, c, rfl, hc, h⟩ := hR
  refine ⟨?_⟩
  have hs' := hS.sizeOf w
  have hc' : hi ≤ c := by omega
  simp only [execOp, h1, h3, Instr.sliceAt, Option.map_some, Option.map_none]
  simp [run_underlying' hT.out, Instr.slice, Instr.sliceBounds, Instr.sliceBound, asIntOf, h4, hc', hs', sliceV]
theorem r_sliceLo {α : Type} {D : Ty α} {v : Value} {l : List α} {e : TypeId} {ag : Bool} {a : Operand} {k : IntKind} {lo : Int} [hT : IsSlice P T e] [hS : TF P e ag D.sz] (hR : Rd D w v l) (h1 : ρ s = v) (h2 : ρ a = .int k lo)
    (h0 : 0 ≤ lo) (h5 : lo ≤ l.length) : Runs P ρ ⟨d, .slice T s (some a) none none, ty, pos, af, g⟩ w (.ok (.value (sliceV v lo.toNat l.length D.sz)) w) := by
  obtain ⟨A, c, rfl, hc, h⟩ := hR
  refine ⟨?_⟩
  have hs' := hS.sizeOf w
  simp only [execOp, h1, h2, Instr.sliceAt, Option.map_some, Option.map_none]
  simp [run_underlying' hT.out, Instr.slice, Instr.sliceBounds, Instr.sliceBound, asIntOf, h0, h5, hs', sliceV]

/-! ### Rows of flat elements -/
def fl {α : Type} (D : Flat α) (l : List α) : List Value := l.flatMap D.enc
theorem fl_length {α : Type} (D : Flat α) (l : List α) : (fl D l).length = l.length * D.sz := by
  induction l with
  | nil => simp [fl]
  | cons x r ih => simp only [fl, List.flatMap_cons, List.length_append, List.length_cons] at *; rw [ih, D.len, Nat.add_mul]; omega
/-- A row of the call's own with the elements l. -/
abbrev rowOb {α : Type} (D : Flat α) (T : TypeId) (v : Value) (l : List α) : Ob := .row v T D.sz l.length (fl D l)
theorem fl_set {α : Type} (D : Flat α) (x : α) : ∀ (l : List α) (i : Nat), i < l.length → splice (fl D l) (i * D.sz) (D.enc x) = fl D (l.set i x) := by
  intro l
  induction l with
  | nil => intro i hi; simp at hi
  | cons y r ih =>
    intro i hi
    cases i with
    | zero => simp [splice, fl, D.len]
    | succ i =>
      have h := ih i (by simpa using hi)
      have e1 : (i + 1) * D.sz = D.sz + i * D.sz := by rw [Nat.add_mul]; omega
      simp only [splice, fl, List.flatMap_cons, List.set_cons_succ, D.len] at h ⊢
      rw [← h, e1, List.take_append, D.len, List.drop_append, D.len]
      rw [List.take_of_length_le (by rw [D.len]; omega), List.drop_eq_nil_of_le (by rw [D.len]; omega)]
      simp only [List.nil_append, List.append_assoc]
      congr 3
      · omega
      · rw [show D.sz + i * D.sz + D.sz - D.sz = i * D.sz + D.sz by omega]

/-- out[j] = x, out a row of the call's own. -/
theorem r_storeElem {α : Type} {D : Flat α} {i : Nat} {T' : TypeId} {l : List α} {x : α} {v u : Value} {j : Int} {ag : Bool} [hS : TF P T ag D.sz] (S : St w0 w os) (hi : os[i]? = some (rowOb D T' v l)) (h1 : ρ s = .pointer (some (elemAddr v D.sz j.toNat))) (h2 : ρ t = u)
    (hu : u.cells.toList = D.enc x) (h1c : ∀ c ∈ D.enc x, c.oneCell' = true) (h0 : 0 ≤ j) (hl : j < l.length) :
    ∃ w', Runs P ρ ⟨d, .store T s t, ty, pos, af, g⟩ w (.ok .skip w') ∧ St w0 w' (os.set i (rowOb D T' v (l.set j.toNat x))) := by
  have how : w.ownsRow w0.heap.size T' D.sz v l.length (fl D l) := S.ok _ (mem_of_get hi)
  obtain ⟨b, cap, rfl, _, _⟩ := how.form (by omega)
  have ha : elemAddr (.slice (some ⟨b, 0, none⟩) l.length cap) D.sz j.toNat = ⟨b, j.toNat * D.sz, none⟩ := by
    show (⟨b, 0, none⟩ : Addr).add _ = _
    rw [add_lit, Nat.zero_add]
  rw [ha] at h1
  have hjl : j.toNat < l.length := by omega
  have hfit : j.toNat * D.sz + D.sz ≤ (fl D l).length := by
    rw [fl_length, ← Nat.succ_mul]; exact Nat.mul_le_mul_right _ hjl
  have husz : u.cells.size = D.sz := by have := congrArg List.length hu; simpa [D.len] using this
  have := r_storeRow (P := P) (ρ := ρ) (d := d) (ty := ty) (pos := pos) (af := af) (g := g) (T := T) (s := s) (t := t) S hi h1 h2 husz hfit (by rw [hu]; exact h1c)
  rw [hu, fl_set D x l _ hjl] at this
  simpa [rowOb] using this

/-- append(v, x) -/
theorem r_append1 {α : Type} {D : Flat α} {e : TypeId} {bytes i b : Nat} {z v : Value} {l : List α} {x : α} [hT : IsSlice P T e] [hI : TI P e z D.sz bytes] (S : St w0 w os) (hi : os[i]? = some (rowOb D e v l))
    (h1 : ρ s = v) (h2 : ρ t = .slice (some ⟨b, 0, none⟩) 1 1) (hc : CellsAt w ⟨b, 0, none⟩ (D.enc x)) (hz : z.cells.size = D.sz) (h0 : 0 < D.sz) (h1c : ∀ u ∈ D.enc x, u.oneCell' = true)
    (hb : (l.length + 1) * bytes ≤ 140737488355328) (h63 : l.length + 1 ≤ 9223372036854775807) :
    ∃ v' w', Runs P ρ ⟨d, .call { callee := .builtin .append, args := #[s, t], argTypes := #[T, T] }, ty, pos, af, g⟩ w (.ok (.value v') w') ∧ w.grownBy w' v.ownBlock ∧ St w0 w' (os.set i (rowOb D e v' (l ++ [x]))) := by
  obtain ⟨v', w', hr, hg, S'⟩ := r_append (P := P) (ρ := ρ) (d := d) (ty := ty) (pos := pos) (af := af) (g := g) (T := T) (s := s) (t := t) S hi hz h0 h1 h2 hc (by rw [D.len, Nat.one_mul]) h1c h63 hb
  refine ⟨v', w', hr, hg, ?_⟩
  have e : fl D l ++ D.enc x = fl D (l ++ [x]) := by simp [fl]
  rw [e] at S'
  simpa [rowOb] using S'

/-- append(v, l2...) -/
theorem Rd.cells {α : Type} {D : Flat α} {v : Value} {l : List α} (h : Rd D.ty w v l) : (∃ c, v = .slice none 0 c ∧ c = 0 ∧ l = []) ∨ ∃ a c, v = .slice (some a) l.length c ∧ (∀ j u, (fl D l)[j]? = some u → w.cell? (a.add j) = some u) := by
  obtain ⟨A, c, rfl, hc, h⟩ := h
  rcases h with ⟨h, hA⟩ | ⟨a, rfl, hs, hlt, h⟩
  · subst h
    cases A with
    | none => exact .inl ⟨c, rfl, hA rfl, rfl⟩
    | some a => exact .inr ⟨a, c, rfl, by simp [fl]⟩
  · refine .inr ⟨a, c, rfl, ?_⟩
    have key : ∀ (l : List α) (k : Nat), (∀ j x, l[j]? = some x → ∃ cs, D.ty.R w x cs ∧ ∀ i u, cs[i]? = some u → w.cell? (a.add ((k + j) * D.sz + i)) = some u) → ∀ j u, (fl D l)[j]? = some u → w.cell? (a.add (k * D.sz + j)) = some u := by
      intro l
      induction l with
      | nil => intro k _ j u hj; simp [fl] at hj
      | cons y r ih =>
        intro k hk j u hj
        simp only [fl, List.flatMap_cons] at hj
        by_cases hlt : j < D.sz
        · rw [List.getElem?_append_left (by rw [D.len]; exact hlt)] at hj
          obtain ⟨cs, hR, hcs⟩ := hk 0 y rfl
          have hR' : cs = D.enc y := hR
          subst hR'
          exact hcs j u hj
        · rw [List.getElem?_append_right (by rw [D.len]; omega), D.len] at hj
          have := ih (k + 1) (fun j x hx => by
            obtain ⟨cs, hR, hcs⟩ := hk (j + 1) x (by simpa using hx)
            exact ⟨cs, hR, fun i u hi => by rw [show (k + 1 + j) = (k + (j + 1)) by omega]; exact hcs i u hi⟩) (j - D.sz) u hj
          rwa [show (k + 1) * D.sz + (j - D.sz) = k * D.sz + j by rw [Nat.add_mul]; omega] at this
    intro j u hj
    have := key l 0 (fun j x hx => by obtain ⟨cs, hR, hcs⟩ := h j x hx; exact ⟨cs, hR, fun i u hi => by rw [Nat.zero_add]; exact hcs i u hi⟩) j u hj
    rwa [Nat.zero_mul, Nat.zero_add] at this

theorem r_appendRd {α : Type} {D : Flat α} {e : TypeId} {bytes i : Nat} {z v v2 : Value} {l l2 : List α} [hT : IsSlice P T e] [hI : TI P e z D.sz bytes] (S : St w0 w os) (hi : os[i]? = some (rowOb D e v l)) (hR : Rd D.ty w v2 l2)
    (h1 : ρ s = v) (h2 : ρ t = v2) (hz : z.cells.size = D.sz) (h0 : 0 < D.sz) (h1c : ∀ x, ∀ u ∈ D.enc x, u.oneCell' = true)
    (hb : (l.length + l2.length) * bytes ≤ 140737488355328) (h63 : l.length + l2.length ≤ 9223372036854775807) :
    ∃ v' w', Runs P ρ ⟨d, .call { callee := .builtin .append, args := #[s, t], argTypes := #[T, T] }, ty, pos, af, g⟩ w (.ok (.value v') w') ∧ w.grownBy w' v.ownBlock ∧ St w0 w' (os.set i (rowOb D e v' (l ++ l2))) := by
  have how : w.ownsRow w0.heap.size e D.sz v l.length (fl D l) := S.ok _ (mem_of_get hi)
  rcases hR.cells with ⟨c, rfl, rfl, rfl⟩ | ⟨a, c, rfl, hcs⟩
  · obtain ⟨ti, hti, _⟩ := hI.out
    refine ⟨v, w, ⟨?_⟩, World.grownBy.refl _ _, ?_⟩
    · simp only [execOp, resolve, List.map_toArray, List.map_cons, List.map_nil, h1, h2]
      simp only [invoke, builtin]
      refine (run_bind (a := { target := _, args := _ }) rfl).trans ?_
      exact run_bind (run_append_owned_none (P := P) w w0.heap.size T ty e ti D.sz hT.out hti v l.length (fl D l) how)
    · rw [List.append_nil]
      have : os.set i (rowOb D e v l) = os := by
        apply List.ext_getElem?
        intro j
        rw [List.getElem?_set]
        by_cases hj : i = j
        · subst hj; rw [if_pos rfl, hi]; split
          · rfl
          · rename_i hlt; rw [List.getElem?_eq_none (by omega)] at hi; cases hi
        · rw [if_neg hj]
      rw [this]; exact S
  · obtain ⟨ti, hti, hz', hs, hby⟩ := hI.out
    have hsz : ti.size = D.sz := hs
    obtain ⟨v', w', hr, how', hg, _, hbk⟩ := run_append_own_at (P := P) w w0.heap.size T ty e ti z D.sz bytes hT.out hti hz' hs hby hz h0 v l.length (fl D l) how a l2.length c (fl D l2) (fl_length D l2) hcs
      (fun u hu => by obtain ⟨x, _, hx⟩ := List.mem_flatMap.1 hu; exact h1c x u hx) (by simpa [maxLen] using h63) hb S.below.size
    refine ⟨v', w', ⟨?_⟩, hg, ?_⟩
    · simp only [execOp, resolve, List.map_toArray, List.map_cons, List.map_nil, h1, h2]
      simp only [invoke, builtin]
      refine (run_bind (a := { target := _, args := _ }) rfl).trans ?_
      exact run_bind hr
    · have e2 : fl D l ++ fl D l2 = fl D (l ++ l2) := by simp [fl]
      rw [e2] at how'
      have hlen : l.length + l2.length = (l ++ l2).length := by simp
      rw [hlen] at how'
      refine S.write hi hg how' ?_
      rcases hbk with h | h
      · exact .inl h
      · exact .inr (.inr ⟨_, h, Nat.le_refl _⟩)

end

/-- A call that hands back more than a known value. -/
structure CallsR (P : Program) (f : FuncId) (args : Array Value) (w : World) (R : Value → World → Prop) : Prop where mk :: (out : Calls P f args w fun e w' => ∃ v, e = .returned v ∧ Below w.heap.size w w' ∧ R v w')
theorem st_callR {P : Program} {n : Nat} {ops : Array Oper} {Q : Post} {σ : Nat → Value} {w : World} {o : Oper} {rest : List Oper} {f : FuncId} {args : Array Value} {R : Value → World → Prop} (hw : wantS o ops n σ = true) (hrun : Runs P (opv (cut n σ)) o w (.ok (.enter f args) w))
    (hc : CallsR P f args w R) (k : ∀ v w1, Below w.heap.size w w1 → R v w1 → wl P n ops Q rest (updO σ o.dst v) w1) : wl P n ops Q (o :: rest) σ w :=
  st_enter hw hrun hc.out fun _ w1 ⟨v, he, hb, hR⟩ => ⟨v, he, k v w1 hb hR⟩
/-- A row made since w. -/
abbrev NewRow {α : Type} (D : Flat α) (T : TypeId) (w w' : World) (v : Value) (l : List α) : Prop := (rowOb D T v l).ok w' w.heap.size
theorem NewRow.nil {α : Type} (D : Flat α) (T : TypeId) (w w' : World) : NewRow D T w w' (.slice none 0 0) [] := World.ownsRow_nil _ _ _ _
theorem St.row {α : Type} {D : Flat α} {T : TypeId} {w0 w : World} {os : List Ob} {i : Nat} {v : Value} {l : List α} (S : St w0 w os) (hi : os[i]? = some (rowOb D T v l)) : NewRow D T w0 w v l := S.ok _ (mem_of_get hi)
theorem St.rdRow {α : Type} {D : Flat α} {T : TypeId} {w0 w : World} {os : List Ob} {i : Nat} {v : Value} {l : List α} (S : St w0 w os) (hi : os[i]? = some (rowOb D T v l)) : Rd D.ty w v l := S.rd D hi
theorem St.nilRow {α : Type} (D : Flat α) (T : TypeId) {w0 w : World} {os : List Ob} (S : St w0 w os) : St w0 w (os ++ [rowOb D T (.slice none 0 0) []]) := S.new (Below.refl _ _) (World.ownsRow_nil _ _ _ _)
end Go.Gx
/-
  '==' of structs.
-/
namespace Go.Gx
open Go Go.RowKit
set_option linter.unusedSimpArgs false
set_option linter.unusedVariables false

section
variable {P : Program} {d : Nat} {xs ys : Array Value} {f : Field} {fs : List Field} {a b : Value} {r s : Bool} {w : World} {T : TypeId}
theorem ef_nil : (Op.eqFields d xs ys []).run P w = .ok true w := by simp [Op.eqFields]
theorem ef_cons (hn : (f.name == "_") = false) (ha : (part f.type xs f.offset).run P w = .ok a w) (hb : (part f.type ys f.offset).run P w = .ok b w) (he : (Op.equalIn d f.type a b).run P w = .ok r w)
    (hr : (Op.eqFields d xs ys fs).run P w = .ok s w) : (Op.eqFields d xs ys (f :: fs)).run P w = .ok (r && s) w := by
  have hn' : f.name ≠ "_" := by simpa using hn
  rw [Op.eqFields]
  simp only [if_pos hn', Sem.run_bind, ha, hb, he, Result.andThen_ok]
  cases r
  · simp
  · simpa using hr
theorem part1 {off : Nat} {v : Value} [hT : TF P T false 1] (h : xs[off]? = some v) : (part T xs off).run P w = .ok v w := by
  unfold part; refine (run_bind (hT.isAgg w)).trans ?_; simp [h]
theorem eqInt {k k' : IntKind} {x y : Int} [hT : IsInt P T k] (hd : 1 ≤ d) : (Op.equalIn d T (.int k' x) (.int k' y)).run P w = .ok (decide (x = y)) w := by
  obtain ⟨e, rfl⟩ : ∃ e, d = e + 1 := ⟨d - 1, by omega⟩
  exact run_equalIn_int w e T k' k x y hT.out
theorem eqStruct {fs : Array Field} (hu : P.underlying T = some (.struct fs)) (hp : P.stoodInHeld T = false) (hd : 1 ≤ d) (h : (Op.eqFields (d - 1) xs ys fs.toList).run P w = .ok r w) : (Op.equalIn d T (.agg xs) (.agg ys)).run P w = .ok r w := by
  obtain ⟨e, rfl⟩ : ∃ e, d = e + 1 := ⟨d - 1, by omega⟩
  have hf : P.fieldsOf T = fs := by simp [Program.fieldsOf, hu]
  rw [run_equalIn_struct (P := P) w e T xs ys (by rw [hf]; exact hu) hp, hf]
  exact h
end
section
variable {P : Program} {ρ : Operand → Value} {w : World} {d : Option Tmp} {ty : TypeId} {pos : String} {af : Array Edge} {g : Option (Nat × Bool)} {T T' : TypeId} {s t : Operand} {xs ys : Array Value} {b : Bool}
theorem r_eqlAgg (h1 : ρ s = .agg xs) (h2 : ρ t = .agg ys) (hg : P.eqGuardType P.depth T = false) (hE : (Op.equalIn 10000 T (.agg xs) (.agg ys)).run P w = .ok b w) : Runs P ρ ⟨d, .binOp .eql T s t T', ty, pos, af, g⟩ w (.ok (.value (.bool b)) w) := ⟨by
  simp only [execOp, h1, h2]
  refine run_bind (a := Value.bool b) ?_
  refine (run_bind (run_eqGuard_agg w .eql T s t xs ys hg)).trans ?_
  rw [run_eql_struct, hE]; rfl⟩
theorem r_neqAgg (h1 : ρ s = .agg xs) (h2 : ρ t = .agg ys) (hg : P.eqGuardType P.depth T = false) (hE : (Op.equalIn 10000 T (.agg xs) (.agg ys)).run P w = .ok b w) : Runs P ρ ⟨d, .binOp .neq T s t T', ty, pos, af, g⟩ w (.ok (.value (.bool (!b))) w) := ⟨by
  simp only [execOp, h1, h2]
  refine run_bind (a := Value.bool (!b)) ?_
  refine (run_bind (run_eqGuard_agg w .neq T s t xs ys hg)).trans ?_
  rw [run_neq_struct, hE]; rfl⟩
end
end Go.Gx
/-
  A call's end where a result lies in a variable of the call's own.
-/
namespace Go.Gx
open Go Go.RowKit
set_option linter.unusedVariables false
set_option linter.unusedSimpArgs false

theorem mapM_one {α β : Type} {f : α → Sem β} {a : α} {b : β} {P : Program} {w w' : World} (h : (f a).run P w = .ok b w') : (#[a].mapM f).run P w = .ok #[b] w' := by
  have e : (#[a] : Array α).mapM f = (do let l ← [a].mapM f; pure l.toArray) := by
    rw [Array.mapM_eq_mapM_toList]; rfl
  rw [e, List.mapM_cons]
  simp only [List.mapM_nil, bind_assoc, pure_bind]
  exact (run_bind h).trans rfl

theorem endCellA {P : Program} {fn : Func} {n : Nat} {R : Ending → World → Prop} {σ : Nat → Value} {w0 w : World} {t T sz b i : Nat} {os : List Ob} {T' : TypeId} {cs : List Value} [hT : TF P T true sz]
    (hr : fn.results = #[.cell t T]) (hv : cut n σ t = .pointer (some ⟨b, 0, none⟩)) (S : St w0 w os) (hi : os[i]? = some (.var b T' cs)) (hl : cs.length = sz) (h : R (.returned (.agg cs.toArray)) w) : endQ P fn n R .ret σ w := by
  refine endC ?_ h
  have hc := S.var hi
  have hl' : (loadCells ⟨b, 0, none⟩ sz).run P w = .ok cs.toArray w := by subst hl; exact run_loadCells_list (P := P) (w := w) _ cs hc.2.2
  unfold results
  rw [hr]
  refine (run_bind (mapM_one (b := .agg cs.toArray) ?_)).trans rfl
  have e : asAddr ((Fr n σ).tmps.getD t undef) = pure (⟨b, 0, none⟩ : Addr) := by rw [Fr_getD, hv]; rfl
  show (do loadVar T (← asAddr ((Fr n σ).tmps.getD t undef)) : Sem Value).run P w = _
  rw [e]
  simp only [loadVar]
  refine (run_bind (a := (⟨b, 0, none⟩ : Addr)) rfl).trans ?_
  refine (run_bind (hT.isAgg w)).trans ?_
  refine (run_bind (hT.sizeOf w)).trans ?_
  exact run_bind hl'
section
variable {P : Program} {ρ : Operand → Value} {w : World} {d : Option Tmp} {ty : TypeId} {pos : String} {af : Array Edge} {g : Option (Nat × Bool)} {T : TypeId} {s : Operand}
theorem r_makeFn1 {f : Fn} {a0 : Operand} {v0 : Value} (h0 : ρ a0 = v0) : Runs P ρ ⟨d, .makeFunc f #[] #[a0], ty, pos, af, g⟩ w (.ok (.value (.func f #[] [v0].toArray)) w) :=
  ⟨by simp [execOp, Instr.makeFunc, pure, bind, Sem.bind, Sem.run, h0]⟩
/-- A known cell is read. -/
theorem r_loadAt {b o : Nat} {cs : List Value} {u : Value} [TF P T false 1] (h : CellsAt w ⟨b, 0, none⟩ cs) (h1 : ρ s = .pointer (some ⟨b, o, none⟩)) (hv : cs[o]? = some u) : Runs P ρ ⟨d, .load T s, ty, pos, af, g⟩ w (.ok (.value u) w) := by
  have := h.2.2 o u hv
  rw [add_lit, Nat.zero_add] at this
  exact r_load h1 this
end

section
variable {P : Program} {ρ : Operand → Value} {w : World} {d : Option Tmp} {ty : TypeId} {pos : String} {af : Array Edge} {g : Option (Nat × Bool)} {T T' : TypeId} {s t : Operand} {k k' : IntKind} {x y : Int}
theorem wrap_u64 (z : Int) : IntKind.u64.wrap z = z % 18446744073709551616 := by
  simp [IntKind.wrap, IntKind.signed, IntKind.bits]
theorem r_convI [hS : IsInt P T k] [hT : IsInt P T' .i64] (h1 : ρ s = .int k x) (h0 : -9223372036854775808 ≤ x) (h : x ≤ 9223372036854775807) : Runs P ρ ⟨d, .convert T T' s, ty, pos, af, g⟩ w (.ok (.value (.int .i64 x)) w) := by
  have := r_convert (P := P) (w := w) (d := d) (ty := ty) (pos := pos) (af := af) (g := g) (T := T) (T' := T') h1; rwa [wrap_in h0 h] at this
theorem r_convU [hS : IsInt P T k] [hT : IsInt P T' .u64] (h1 : ρ s = .int k x) (h0 : 0 ≤ x) (h : x ≤ 18446744073709551615) : Runs P ρ ⟨d, .convert T T' s, ty, pos, af, g⟩ w (.ok (.value (.int .u64 x)) w) := by
  have := r_convert (P := P) (w := w) (d := d) (ty := ty) (pos := pos) (af := af) (g := g) (T := T) (T' := T') h1; rwa [wrap_u64, Int.emod_eq_of_lt h0 (by omega)] at this
theorem r_shr1 (h1 : ρ s = .int .u64 x) (h2 : ρ t = .int k' 1) : Runs P ρ ⟨d, .binOp .shr T s t T', ty, pos, af, g⟩ w (.ok (.value (.int .u64 (x / 2))) w) := by
  have := r_shr (P := P) (w := w) (d := d) (ty := ty) (pos := pos) (af := af) (g := g) (T := T) (T' := T') h1 h2 (by omega)
  rwa [show (2 : Int) ^ (min (1 : Int).toNat IntKind.u64.bits) = 2 from rfl, Int.fdiv_eq_ediv_of_nonneg _ (by omega)] at this
end
section
variable {P : Program} {ρ : Operand → Value} {w w0 : World} {d : Option Tmp} {ty : TypeId} {pos : String} {af : Array Edge} {g : Option (Nat × Bool)} {T : TypeId} {os : List Ob}
theorem cellsOf_val {α : Type} {D : Flat α} {val : α → Value} (hval : ∀ x, (val x).cells.toList = D.enc x) (xs : List α) : cellsOf (xs.map val) = fl D xs := by
  induction xs with
  | nil => rfl
  | cons x r ih => simp only [cellsOf, fl, List.map_cons, List.flatMap_cons, hval] at *; rw [ih]
/-- A slice literal of flat elements. -/
theorem r_litF {α : Type} {D : Flat α} {e : TypeId} {bytes m : Nat} {z : Value} {ps : List (Nat × Operand)} (xs : List α) (val : α → Value) [hT : IsSlice P T e] [hI : TI P e z D.sz bytes] (S : St w0 w os)
    (hp : (ps.map fun p => (p.1, ρ p.2)) = parts 0 (xs.map val)) (hm : m = xs.length) (hval : ∀ x, (val x).cells.toList = D.enc x) (hz : z.cells.size = D.sz) (h0 : 0 < m * D.sz) (hb : m * D.sz ≤ 16777216) :
    ∃ v' w', Runs P ρ ⟨d, .buildSlice T m ps.toArray, ty, pos, af, g⟩ w (.ok (.value v') w') ∧ ∃ b, v' = .slice (some ⟨b, 0, none⟩) xs.length xs.length ∧ Below w.heap.size w w' ∧ CellsAt w' ⟨b, 0, none⟩ (fl D xs) ∧ St w0 w' (os ++ [rowOb D e v' xs]) := by
  subst hm
  have h := r_lit (P := P) (ρ := ρ) (d := d) (ty := ty) (pos := pos) (af := af) (g := g) (T := T) (ps := ps.toArray) (vs := xs.map val) (m := xs.length) S (by rw [← hp]; simp) (by simp) hz h0 hb
    (fun v hv => by obtain ⟨x, _, rfl⟩ := List.mem_map.1 hv; have := congrArg List.length (hval x); simpa [D.len] using this)
  rw [cellsOf_val hval] at h
  exact h
end
theorem callsR_mono {P : Program} {f : FuncId} {args : Array Value} {w : World} {R R' : Value → World → Prop} (h : CallsR P f args w R) (hv : ∀ u w', R u w' → R' u w') : CallsR P f args w R' :=
  ⟨Calls.mono h.out fun _ _ ⟨u, he, hb, hR⟩ => ⟨u, he, hb, hv _ _ hR⟩⟩
end Go.Gx
/-
  More operations.
-/
namespace Go.Gx
open Go Go.RowKit
set_option linter.unusedVariables false
set_option linter.unusedSimpArgs false

section
variable {P : Program} {ρ : Operand → Value} {w : World} {d : Option Tmp} {ty : TypeId} {pos : String} {af : Array Edge} {g : Option (Nat × Bool)} {T T' : TypeId} {s t : Operand} {a b : Bool}
end
end Go.Gx
/-
  A region that draws its order: a head of operations that leave known memory alone, and behind it a tail that waits for them (a literal built, a row lengthened, a store): one walk serves every order.
  The exchange of two operations is argued as in the kit's texts on drawn orders, whose small laws are used.
-/
namespace Go.Gx
open Go Go.RowKit
set_option linter.unusedVariables false
set_option linter.unusedSimpArgs false

section
variable {P : Program} {ops : Array Oper} {Q : Exit → Act → World → Prop} {md : Region.Mode} {n : Nat}

def reachG (md : Region.Mode) (ops : Array Oper) (i : Nat) : Nat → Nat → Bool
  | 0, _ => false
  | fuel + 1, d => match ops[d]? with
    | some o => o.after.any fun e => Region.binds md e && (e.on == i || reachG md ops i fuel e.on)
    | none => false
def ClosedG (md : Region.Mode) (ops : Array Oper) (listed : Array Bool) : Prop :=
  ∀ j oj, ops[j]? = some oj → listed.getD j false = true → ∀ e ∈ oj.after, Region.binds md e = true → listed.getD e.on false = true
theorem ClosedG.set {listed : Array Bool} {i : Nat} (h : ClosedG md ops listed) (hi : i ∈ Region.ready md ops listed) : ClosedG md ops (listed.setIfInBounds i true) := by
  obtain ⟨_, oi, hoi, hall⟩ := mem_ready.1 hi
  intro j oj hj hl e he hb
  by_cases hij : i = j
  · subst hij
    obtain rfl : oj = oi := Option.some.inj (hj.symm.trans hoi)
    exact getD_set_true (hall e he hb)
  · rw [getD_set_ne false hij] at hl
    exact getD_set_true (h j oj hj hl e he hb)
theorem reachG_listed {listed : Array Bool} {i : Nat} (hc : ClosedG md ops listed) : ∀ (fuel d : Nat), reachG md ops i fuel d = true → listed.getD d false = true → listed.getD i false = true
  | 0, _, h, _ => by simp [reachG] at h
  | fuel + 1, d, h, hl => by
    unfold reachG at h
    cases ho : ops[d]? with
    | none => rw [ho] at h; simp at h
    | some o =>
      rw [ho] at h
      obtain ⟨e, he, h1⟩ := Array.any_eq_true'.1 h
      simp only [Bool.and_eq_true, Bool.or_eq_true, beq_iff_eq] at h1
      have hle := hc d o ho hl e he h1.1
      rcases h1.2 with h2 | h2
      · rw [← h2]; exact hle
      · exact reachG_listed hc fuel e.on h2 hle
theorem getD_two {listed : Array Bool} {i : Nat} (h : listed.getD i true = false) : listed.getD i false = false := by
  rcases Nat.lt_or_ge i listed.size with h' | h'
  · simp [h'] at h ⊢; exact h
  · simp [Array.getElem?_eq_none h'] at h
theorem reachG_not_ready {listed : Array Bool} {i d fuel : Nat} (hc : ClosedG md ops listed) (hr : reachG md ops i fuel d = true) (hun : listed.getD i true = false) : d ∉ Region.ready md ops listed := by
  intro hd
  obtain ⟨_, o, ho, hall⟩ := mem_ready.1 hd
  have hi : listed.getD i false = true := by
    cases fuel with
    | zero => simp [reachG] at hr
    | succ n =>
      unfold reachG at hr
      rw [ho] at hr
      obtain ⟨e, he, h1⟩ := Array.any_eq_true'.1 hr
      simp only [Bool.and_eq_true, Bool.or_eq_true, beq_iff_eq] at h1
      have hle := hall e he h1.1
      rcases h1.2 with h2 | h2
      · rw [← h2]; exact hle
      · exact reachG_listed hc n e.on h2 hle
  rw [getD_two hun] at hi; cases hi

/-- The tail has begun. -/
def Began (n : Nat) (listed : Array Bool) : Prop := ∃ d, n ≤ d ∧ listed.getD d false = true
abbrev Gw (w w1 : World) : Prop := Below w.heap.size w w1
theorem Gw.refl (w : World) : Gw w w := Below.refl _ _
theorem Gw.trans {w w1 w2 : World} (h : Gw w w1) (h2 : Gw w1 w2) : Gw w w2 := Below.trans h (h2.mono h.size)
def GG (n : Nat) (listed : Array Bool) (w w1 : World) : Prop := (Began n listed → w1 = w) ∧ (¬ Began n listed → Gw w w1)
theorem Began.set {listed : Array Bool} {i : Nat} (hi : i < n) : Began n (listed.setIfInBounds i true) ↔ Began n listed := by
  constructor
  · rintro ⟨d, hd, h⟩; exact ⟨d, hd, by rwa [getD_set_ne false (by omega)] at h⟩
  · rintro ⟨d, hd, h⟩; exact ⟨d, hd, by rwa [getD_set_ne false (by omega)]⟩
theorem Began.now {listed : Array Bool} {i : Nat} (hi : n ≤ i) (hl : listed.getD i true = false) : Began n (listed.setIfInBounds i true) := by
  refine ⟨i, hi, ?_⟩
  rcases Nat.lt_or_ge i listed.size with h' | h'
  · simp [h']
  · simp [Array.getElem?_eq_none h'] at hl
theorem GG.set {listed : Array Bool} {i : Nat} {w w1 : World} (hi : i < n) (h : GG n listed w w1) : GG n (listed.setIfInBounds i true) w w1 := by
  unfold GG; rw [Began.set hi]; exact h

def wpAnyG (P : Program) (md : Region.Mode) (ops : Array Oper) (Q : Exit → Act → World → Prop) (n : Nat) : Nat → Array Bool → Act → World → Prop
  | 0, listed, a, w => Region.ready md ops listed = [] ∧ ∀ w1, GG n listed w w1 → Q .normal a w1
  | fuel + 1, listed, a, w =>
    (Region.ready md ops listed = [] → ∀ w1, GG n listed w w1 → Q .normal a w1) ∧
    ∀ i ∈ Region.ready md ops listed, ∀ w1, GG n listed w w1 → sOp P ops Q i (fun a' w' => (i < n → ¬ Began n listed → Gw w1 w') ∧ wpAnyG P md ops Q n fuel (listed.setIfInBounds i true) a' w') a w1

theorem GG.refl {listed : Array Bool} {w : World} : GG n listed w w := ⟨fun _ => rfl, fun _ => Gw.refl w⟩
theorem GG.trans {listed : Array Bool} {w w1 w2 : World} (h : GG n listed w w1) (h2 : GG n listed w1 w2) : GG n listed w w2 := ⟨fun hb => (h2.1 hb).trans (h.1 hb), fun hb => (h.2 hb).trans (h2.2 hb)⟩
theorem wpAnyG_mono {fuel : Nat} {listed : Array Bool} {a : Act} {w w1 : World} (h : wpAnyG P md ops Q n fuel listed a w) (hg : GG n listed w w1) : wpAnyG P md ops Q n fuel listed a w1 := by
  cases fuel with
  | zero => exact ⟨h.1, fun w2 h2 => h.2 w2 (hg.trans h2)⟩
  | succ k => exact ⟨fun h0 w2 h2 => h.1 h0 w2 (hg.trans h2), fun i hi w2 h2 => h.2 i hi w2 (hg.trans h2)⟩

theorem wpAny_of_G : ∀ (fuel : Nat) (listed : Array Bool) (a : Act) (w : World), wpAnyG P md ops Q n fuel listed a w → sAny P md ops Q fuel listed a w
  | 0, _, _, w, h => ⟨h.1, h.2 w GG.refl⟩
  | fuel + 1, listed, _, w, h => ⟨fun h0 => h.1 h0 w GG.refl, fun i hi => sOp_mono (fun a' w' h' => wpAny_of_G fuel _ a' w' h'.2) (h.2 i hi w GG.refl)⟩

/-- In state 'a' and in every world grown out of w, 'o' leaves 'v', and a world grown out of the one it got. -/
def YieldsG (P : Program) (ops : Array Oper) (w : World) (o : Oper) (v : Value) (a : Act) : Prop :=
  (Region.wanted o (yielded ops a.tmps) = true ∧ ∀ w1, Gw w w1 → quietG P o a w1 v) ∨ (Region.wanted o (yielded ops a.tmps) = false ∧ v = undef)
theorem YieldsG.mono {w w' : World} {o : Oper} {v : Value} {a : Act} (h : YieldsG P ops w o v a) (hg : Gw w w') : YieldsG P ops w' o v a := h.imp (fun ⟨hw, h⟩ => ⟨hw, fun w1 h1 => h w1 (hg.trans h1)⟩) id
theorem YieldsG.of_same {w : World} {o : Oper} {v : Value} {a a' : Act} (hy : YieldsG P ops w o v a) (he : execOp a'.eval o = execOp a.eval o)
    (hw : Region.wanted o (yielded ops a'.tmps) = Region.wanted o (yielded ops a.tmps)) : YieldsG P ops w o v a' := by
  unfold YieldsG quietG at *
  rw [he, hw]
  exact hy

/-- One operation 'oj', apart from 'oi', which is quiet. -/
theorem sOp_putQ {j : Nat} {oi oj : Oper} {v : Value} (hj : ops[j]? = some oj) (hap : oi.apart ops oj = true)
    (hsi : ∀ cs b, oi.op ≠ .select cs b) (hsj : ∀ cs b, oj.op ≠ .select cs b)
    (hQ : ∀ c a w, Q (.panic c) (a.put oi.dst v) w → Q (.panic c) a w) {K : Act → World → Prop} {a : Act} {w W : World}
    (hy : YieldsG P ops W oi v a) (h : sOp P ops Q j K (a.put oi.dst v) w) :
    sOp P ops Q j (fun a' w' => YieldsG P ops W oi v a' ∧ K (a'.put oi.dst v) w') a w := by
  obtain ⟨h1, h2, h3⟩ := Oper.apart_spec hap
  have keep : ∀ (a : Act), YieldsG P ops W oi v a → ∀ u, YieldsG P ops W oi v (a.put oj.dst u) := fun a hy u =>
    hy.of_same (execOp_put oi hsi a oj.dst u h3) (wanted_put oi a oj.dst u h3)
  have keepD : ∀ d, YieldsG P ops W oi v { a with defers := d :: a.defers } := fun d => hy.of_same rfl rfl
  unfold sOp at *
  simp only [hj] at *
  rw [wanted_put oj a oi.dst v h1] at h
  split
  · rename_i hw
    simp only [hw, if_true] at h
    unfold Oper.sp at *
    rcases h with (h | ⟨hasks, hlets⟩) | h
    case inl.inr => exact .inl (.inr ⟨by unfold Oper.asks at *; rw [execOp_put oj hsj a oi.dst v h1] at hasks; exact hasks, hlets⟩)
    case inr =>
      obtain ⟨l, f, tmps, as, b, w', e1, e2⟩ := h
      rw [execOp_put oj hsj a oi.dst v h1] at e1
      exact .inr ⟨l, f, tmps, as, b, w', e1, e2.mono fun e w'' ⟨u, he, hk⟩ => ⟨u, he, keep a hy u, by rw [← Act.put_comm a v u h2]; exact hk⟩⟩
    refine .inl (.inl ?_)
    unfold Oper.wp at *
    rw [execOp_put oj hsj a oi.dst v h1] at h
    generalize (execOp a.eval oj).run P w = r at *
    cases r with
    | ok n w' =>
      cases n <;> simp only [Oper.upon] at h ⊢
      case value u => exact ⟨keep a hy u, by rw [← Act.put_comm a v u h2]; exact h⟩
      case skip => exact ⟨keep a hy _, by rw [← Act.put_comm a v undef h2]; exact h⟩
      case defer d =>
        refine ⟨keep _ (keepD d) _, ?_⟩
        rw [← Act.put_comm _ v undef h2, ← Act.put_defers]
        exact h
      case enter f args =>
        refine Calls.mono h fun e w'' he => ?_
        cases e with
        | returned u => exact ⟨keep a hy u, by rw [← Act.put_comm a v u h2]; exact he⟩
        | panicked c => exact hQ _ _ _ he
        | outgrown => exact he
      case row row args => exact Rows.mono h fun u w'' he => ⟨keep a hy u, by rw [← Act.put_comm a v u h2]; exact he⟩
    | halt x w' =>
      cases x <;> simp only [Oper.upon] at h ⊢
      case panic u => exact hQ _ _ _ h
  · rename_i hw
    simp only [hw] at h
    exact ⟨keep a hy _, by rw [← Act.put_comm a v undef h2]; exact h⟩
/-- The same, where what is apart is the same in every world. -/
theorem sOp_put {j : Nat} {oi oj : Oper} {v : Value} (hj : ops[j]? = some oj) (hap : oi.apart ops oj = true)
    (hsi : ∀ cs b, oi.op ≠ .select cs b) (hsj : ∀ cs b, oj.op ≠ .select cs b)
    (hQ : ∀ c a w, Q (.panic c) (a.put oi.dst v) w → Q (.panic c) a w) {K : Act → World → Prop} {a : Act} {w : World}
    (hy : Yields P ops oi v a) (h : sOp P ops Q j K (a.put oi.dst v) w) :
    sOp P ops Q j (fun a' w' => Yields P ops oi v a' ∧ K (a'.put oi.dst v) w') a w := by
  obtain ⟨h1, h2, h3⟩ := Oper.apart_spec hap
  have keep : ∀ (a : Act), Yields P ops oi v a → ∀ u, Yields P ops oi v (a.put oj.dst u) := fun a hy u =>
    hy.of_same (execOp_put oi hsi a oj.dst u h3) (wanted_put oi a oj.dst u h3)
  have keepD : ∀ d, Yields P ops oi v { a with defers := d :: a.defers } := fun d => hy.of_same rfl rfl
  unfold sOp at *
  simp only [hj] at *
  rw [wanted_put oj a oi.dst v h1] at h
  split
  · rename_i hw
    simp only [hw, if_true] at h
    unfold Oper.sp at *
    rcases h with (h | ⟨hasks, hlets⟩) | h
    case inl.inr => exact .inl (.inr ⟨by unfold Oper.asks at *; rw [execOp_put oj hsj a oi.dst v h1] at hasks; exact hasks, hlets⟩)
    case inr =>
      obtain ⟨l, f, tmps, as, b, w', e1, e2⟩ := h
      rw [execOp_put oj hsj a oi.dst v h1] at e1
      exact .inr ⟨l, f, tmps, as, b, w', e1, e2.mono fun e w'' ⟨u, he, hk⟩ => ⟨u, he, keep a hy u, by rw [← Act.put_comm a v u h2]; exact hk⟩⟩
    refine .inl (.inl ?_)
    unfold Oper.wp at *
    rw [execOp_put oj hsj a oi.dst v h1] at h
    generalize (execOp a.eval oj).run P w = r at *
    cases r with
    | ok n w' =>
      cases n <;> simp only [Oper.upon] at h ⊢
      case value u => exact ⟨keep a hy u, by rw [← Act.put_comm a v u h2]; exact h⟩
      case skip => exact ⟨keep a hy _, by rw [← Act.put_comm a v undef h2]; exact h⟩
      case defer d =>
        refine ⟨keep _ (keepD d) _, ?_⟩
        rw [← Act.put_comm _ v undef h2, ← Act.put_defers]
        exact h
      case enter f args =>
        refine Calls.mono h fun e w'' he => ?_
        cases e with
        | returned u => exact ⟨keep a hy u, by rw [← Act.put_comm a v u h2]; exact he⟩
        | panicked c => exact hQ _ _ _ he
        | outgrown => exact he
      case row row args => exact Rows.mono h fun u w'' he => ⟨keep a hy u, by rw [← Act.put_comm a v u h2]; exact he⟩
    | halt x w' =>
      cases x <;> simp only [Oper.upon] at h ⊢
      case panic u => exact hQ _ _ _ h
  · rename_i hw
    simp only [hw] at h
    exact ⟨keep a hy _, by rw [← Act.put_comm a v undef h2]; exact h⟩

theorem sOp_inl {i : Nat} {K : Act → World → Prop} {a : Act} {w : World} (h : wpOp P ops Q i K a w) : sOp P ops Q i K a w := by
  unfold wpOp at h
  unfold sOp
  cases ho : ops[i]? with
  | none => simp only [ho] at h ⊢; exact h
  | some o =>
    simp only [ho] at h ⊢
    split
    · rename_i hw; rw [if_pos hw] at h; exact .inl h
    · rename_i hw; rw [if_neg hw] at h; exact h
theorem YieldsG.sp1 {i : Nat} {o : Oper} {v : Value} {a : Act} {W w : World} (hi : ops[i]? = some o) (hy : YieldsG P ops W o v a) {K : Act → World → Prop} (hC : Gw W w) (h : ∀ w', Gw w w' → K (a.put o.dst v) w') : sOp P ops Q i K a w := by
  unfold Gx.sOp Oper.sp
  simp only [hi]
  rcases hy with ⟨hw, hv⟩ | ⟨hw, rfl⟩
  · simp only [hw, if_true]
    refine .inl (.inl ?_)
    have h3 := hv w hC
    unfold quietG at h3
    unfold Oper.wp
    generalize (execOp a.eval o).run P w = r at *
    cases r with
    | ok n w' =>
      cases n <;> simp only [] at h3 <;> simp only [Oper.upon]
      case value u =>
        obtain ⟨e1, e2⟩ := h3
        rw [e1, e2]
        exact h _ (Gw.refl _)
      case skip =>
        obtain ⟨e1, e2⟩ := h3
        rw [e1, ← e2]
        exact h _ (Gw.refl _)
      case enter f args =>
        obtain ⟨e1, hc⟩ := h3
        rw [e1]
        exact hc.mono fun e w'' ⟨he, hw''⟩ => by subst he; exact h _ hw''
    | halt x w' => simp only [] at h3
  · simp only [hw, Bool.false_eq_true, if_false]; exact h w (Gw.refl _)

theorem unlisted_hyp {listed : Array Bool} {i j : Nat} {oi : Oper} (hfree : ∀ j oj, ops[j]? = some oj → j ≠ i → listed.getD j true = false → (∀ e ∈ oj.after, Region.binds md e = true → e.on ≠ i) → oi.apart ops oj = true) (hjun : listed.getD j true = false) :
    ∀ k ok, ops[k]? = some ok → k ≠ i → (listed.setIfInBounds j true).getD k true = false → (∀ e ∈ ok.after, Region.binds md e = true → e.on ≠ i) → oi.apart ops ok = true := fun k ok hk hki hun hno => by
  refine hfree k ok hk hki ?_ hno
  by_cases hjk : j = k
  · subst hjk; exact hjun
  · rw [getD_set_ne true hjk] at hun; exact hun

/-- What yields in whatever world is taken first. -/
theorem firstP {i : Nat} {oi : Oper} {v : Value} (hi : ops[i]? = some oi) (hsel : ∀ (j : Nat) (o : Oper) cs b, ops[j]? = some o → o.op ≠ .select cs b)
    (hQ : ∀ c a w, Q (.panic c) (a.put oi.dst v) w → Q (.panic c) a w) (hin : i < n) :
    ∀ (fuel : Nat) (listed : Array Bool) (a : Act) (w : World),
      (∀ j oj, ops[j]? = some oj → j ≠ i → listed.getD j true = false → (∀ e ∈ oj.after, Region.binds md e = true → e.on ≠ i) → oi.apart ops oj = true) →
      i ∈ Region.ready md ops listed → Yields P ops oi v a →
      wpAnyG P md ops Q n fuel (listed.setIfInBounds i true) (a.put oi.dst v) w → wpAnyG P md ops Q n (fuel + 1) listed a w := by
  intro fuel
  induction fuel with
  | zero =>
    intro listed a w _ hr hy H
    refine ⟨fun h => (by rw [h] at hr; cases hr), fun j hj w1 hg => ?_⟩
    by_cases hji : j = i
    · subst hji; exact sOp_inl (hy.wpOp hi ⟨fun _ _ => Gw.refl _, wpAnyG_mono H (hg.set hin)⟩)
    · have := ready_mono hj hji
      rw [H.1] at this
      cases this
  | succ fuel ih =>
    intro listed a w hfree hr hy H
    refine ⟨fun h => (by rw [h] at hr; cases hr), fun j hj w1 hg => ?_⟩
    by_cases hji : j = i
    · subst hji; exact sOp_inl (hy.wpOp hi ⟨fun _ _ => Gw.refl _, wpAnyG_mono H (hg.set hin)⟩)
    · have h1 := H.2 j (ready_mono hj hji) w1 (hg.set hin)
      obtain ⟨hjun, oj, hoj, hall⟩ := mem_ready.1 hj
      have hiun := (mem_ready.1 hr).1
      have hnot : ∀ e ∈ oj.after, Region.binds md e = true → e.on ≠ i := fun e he hb heq => by
        have h1 := hall e he hb
        rw [heq, getD_two hiun] at h1
        cases h1
      have h2 := sOp_put hoj (hfree j oj hoj hji hjun hnot) (fun cs b => hsel i oi cs b hi) (fun cs b => hsel j oj cs b hoj) hQ hy h1
      refine sOp_mono (fun a' w' h3 => ⟨fun hjn hb => h3.2.1 hjn (fun h => hb ((Began.set hin).1 h)), ih (listed.setIfInBounds j true) a' w' (unlisted_hyp hfree hjun) (ready_mono hr (Ne.symm hji)) h3.1 ?_⟩) h2
      rw [Array.setIfInBounds_comm _ _ hji]
      exact h3.2.2

/-- What is quiet, and what the whole tail waits for, is taken first. -/
theorem firstQ {i : Nat} {oi : Oper} {v : Value} (hi : ops[i]? = some oi) (hsel : ∀ (j : Nat) (o : Oper) cs b, ops[j]? = some o → o.op ≠ .select cs b)
    (hQ : ∀ c a w, Q (.panic c) (a.put oi.dst v) w → Q (.panic c) a w) (hin : i < n) (hd : ∀ d, n ≤ d → d < ops.size → reachG md ops i ops.size d = true) :
    ∀ (fuel : Nat) (listed : Array Bool) (a : Act) (w : World),
      (∀ j oj, ops[j]? = some oj → j ≠ i → listed.getD j true = false → (∀ e ∈ oj.after, Region.binds md e = true → e.on ≠ i) → oi.apart ops oj = true) →
      ClosedG md ops listed → ¬ Began n listed → i ∈ Region.ready md ops listed → YieldsG P ops w oi v a →
      wpAnyG P md ops Q n fuel (listed.setIfInBounds i true) (a.put oi.dst v) w → wpAnyG P md ops Q n (fuel + 1) listed a w := by
  intro fuel
  induction fuel with
  | zero =>
    intro listed a w _ hc hb hr hy H
    refine ⟨fun h => (by rw [h] at hr; cases hr), fun j hj w1 hg => ?_⟩
    by_cases hji : j = i
    · subst hji
      exact YieldsG.sp1 hi hy (hg.2 hb) fun w' hw' => ⟨fun _ _ => hw', wpAnyG_mono H ⟨fun h => absurd ((Began.set hin).1 h) hb, fun _ => (hg.2 hb).trans hw'⟩⟩
    · have := ready_mono hj hji
      rw [H.1] at this
      cases this
  | succ fuel ih =>
    intro listed a w hfree hc hb hr hy H
    refine ⟨fun h => (by rw [h] at hr; cases hr), fun j hj w1 hg => ?_⟩
    by_cases hji : j = i
    · subst hji
      exact YieldsG.sp1 hi hy (hg.2 hb) fun w' hw' => ⟨fun _ _ => hw', wpAnyG_mono H ⟨fun h => absurd ((Began.set hin).1 h) hb, fun _ => (hg.2 hb).trans hw'⟩⟩
    · have h1 := H.2 j (ready_mono hj hji) w1 (hg.set hin)
      obtain ⟨hjun, oj, hoj, hall⟩ := mem_ready.1 hj
      have hiun := (mem_ready.1 hr).1
      have hjn : j < n := by
        rcases Nat.lt_or_ge j n with h | h
        · exact h
        · exact absurd hj (reachG_not_ready hc (hd j h (Array.getElem?_eq_some_iff.1 hoj).1) hiun)
      have hnot : ∀ e ∈ oj.after, Region.binds md e = true → e.on ≠ i := fun e he hb heq => by
        have h1 := hall e he hb
        rw [heq, getD_two hiun] at h1
        cases h1
      have h2 := sOp_putQ hoj (hfree j oj hoj hji hjun hnot) (fun cs b => hsel i oi cs b hi) (fun cs b => hsel j oj cs b hoj) hQ hy h1
      refine sOp_mono (fun a' w' h3 => ⟨fun hjn hb => h3.2.1 hjn (fun h => hb ((Began.set hin).1 h)), ih (listed.setIfInBounds j true) a' w' (unlisted_hyp hfree hjun) (hc.set hj) (fun h => hb ((Began.set hjn).1 h)) (ready_mono hr (Ne.symm hji)) (h3.1.mono ((hg.2 hb).trans (h3.2.1 hjn (fun h => hb ((Began.set hin).1 h))))) ?_⟩) h2
      rw [Array.setIfInBounds_comm _ _ hji]
      exact h3.2.2

/-! ### The whole region -/
def isPure (o : Oper) : Bool := match o.op with
  | .move _ => true
  | .assign _ => true
  | _ => false
/-- The first n operations: taken in the text's order; those up to m grow the world; from m on anything. -/
def headG (md : Region.Mode) (ops : Array Oper) (n m : Nat) : Nat → Nat → Array Bool → Bool
  | 0, k, listed => Region.seqB md ops (ops.size - n) k listed
  | f + 1, k, listed => (Region.ready md ops listed).contains k && Region.free md ops listed k && ((ops[k]?).any isPure || (List.range ops.size).all fun d => decide (d < m) || reachG md ops k ops.size d) && headG md ops n m f (k + 1) (listed.setIfInBounds k true)
def tailG (md : Region.Mode) (ops : Array Oper) (n m : Nat) : Bool := Region.noSelect ops && decide (n ≤ m) && decide (m ≤ ops.size) && headG md ops n m n 0 (Array.replicate ops.size false)

theorem seqG : ∀ (l : List Oper) (k : Nat) (listed : Array Bool) (a : Act) (w : World), n ≤ k → (∀ j, l[j]? = ops[k + j]?) →
    Region.seqB md ops l.length k listed = true → (∀ w1, GG n listed w w1 → sList P ops Q l a w1) → wpAnyG P md ops Q n l.length listed a w
  | [], _, _, _, _, _, _, hB, h => ⟨by simpa [Region.seqB] using hB, h⟩
  | o :: l, k, listed, a, w, hk, hl, hB, h => by
    have h0 : ops[k]? = some o := by simpa using (hl 0).symm
    simp only [List.length_cons, Region.seqB, Bool.and_eq_true, decide_eq_true_eq] at hB
    refine ⟨fun h1 => (by rw [hB.1] at h1; cases h1), fun i hi w1 hg => ?_⟩
    have hun := (mem_ready.1 hi).1
    rw [hB.1] at hi
    have hik : i = k := by simpa using hi
    subst hik
    have hw : sOp P ops Q i (sList P ops Q l) a w1 := by unfold sOp; simp only [h0]; exact h w1 hg
    exact sOp_mono (fun a' w' h' => ⟨fun hlt => absurd hlt (by omega), seqG l (i + 1) _ a' w' (by omega) (fun j => by have := hl (j + 1); simpa [Nat.add_assoc, Nat.add_comm 1 j] using this) hB.2 (fun w2 hg2 => by rw [hg2.1 (Began.now hk hun)]; exact h')⟩) hw

/-- What grows the world, one operation behind the other; then T. -/
def growUpon (P : Program) (w : World) (K : Value → World → Prop) : Result Next → Prop
  | .ok (.value v) w' => Gw w w' ∧ ∀ w2, Gw w' w2 → K v w2
  | .ok (.enter f args) w' => Calls P f args w' fun e w'' => ∃ v, e = .returned v ∧ Gw w w'' ∧ ∀ w2, Gw w'' w2 → K v w2
  | _ => False
def wpGrow (P : Program) (ops : Array Oper) (Q : Exit → Act → World → Prop) (T : List Oper) : List Oper → Act → World → Prop
  | [], a, w => sList P ops Q T a w
  | o :: rest, a, w => if Region.wanted o (yielded ops a.tmps) = true then growUpon P w (fun v w2 => wpGrow P ops Q T rest (a.put o.dst v) w2) ((execOp a.eval o).run P w) else ∀ w2, Gw w w2 → wpGrow P ops Q T rest (a.put o.dst undef) w2

theorem seqGrow (T : List Oper) (hT : ∀ j, T[j]? = ops[n + j]?) : ∀ (l : List Oper) (k : Nat) (listed : Array Bool) (a : Act) (w : World), k + l.length = n → (∀ j, j < l.length → l[j]? = ops[k + j]?) → ¬ Began n listed →
    Region.seqB md ops (l.length + T.length) k listed = true → (∀ w1, Gw w w1 → wpGrow P ops Q T l a w1) → wpAnyG P md ops Q n (l.length + T.length) listed a w
  | [], k, listed, a, w, hk, _, hb, hB, h => by
    obtain rfl : k = n := by simpa using hk
    have := seqG (P := P) (Q := Q) (md := md) (n := k) T k listed a w (Nat.le_refl _) hT (by simpa using hB) (fun w1 hg => h w1 (hg.2 hb))
    simpa using this
  | o :: l, k, listed, a, w, hk, hl, hb, hB, h => by
    have h0 : ops[k]? = some o := by simpa using (hl 0 (by simp)).symm
    have e : (o :: l).length + T.length = l.length + T.length + 1 := by simp; omega
    rw [e] at hB ⊢
    simp only [Region.seqB, Bool.and_eq_true, decide_eq_true_eq] at hB
    have hkn : k < n := by simp only [List.length_cons] at hk; omega
    refine ⟨fun h1 => (by rw [hB.1] at h1; cases h1), fun i hi w1 hg => ?_⟩
    rw [hB.1] at hi
    have hik : i = k := by simpa using hi
    subst hik
    have h1 := h w1 (hg.2 hb)
    have hrec := fun (a' : Act) (w' : World) (hh : ∀ w2, Gw w' w2 → wpGrow P ops Q T l a' w2) => seqGrow T hT l (i + 1) (listed.setIfInBounds i true) a' w' (by simp only [List.length_cons] at hk; omega) (fun j hj => by have := hl (j + 1) (by simp; omega); simpa [Nat.add_assoc, Nat.add_comm 1 j] using this) (fun h => hb ((Began.set hkn).1 h)) hB.2 hh
    unfold sOp
    simp only [h0]
    unfold wpGrow at h1
    split
    · rename_i hw
      rw [if_pos hw] at h1
      refine .inl (.inl ?_)
      unfold Oper.wp
      generalize (execOp a.eval o).run P w1 = r at *
      cases r with
      | ok x w' =>
        cases x <;> simp only [growUpon] at h1 <;> simp only [Oper.upon]
        case value u => exact ⟨fun _ _ => h1.1, hrec _ _ h1.2⟩
        case enter f args => exact h1.mono fun e w'' ⟨v, he, hg', hk'⟩ => by subst he; exact ⟨fun _ _ => hg', hrec _ _ hk'⟩
      | halt x w' => exact h1.elim
    · rename_i hw
      rw [if_neg hw] at h1
      exact ⟨fun _ _ => Gw.refl _, hrec _ _ h1⟩

theorem pure_yields {o : Oper} {v : Value} {a : Act} {w : World} (hp : isPure o = true) (hy : YieldsG P ops w o v a) : Yields P ops o v a := by
  rcases hy with ⟨hw, h⟩ | h
  · refine .inl ⟨hw, fun w1 => ?_⟩
    have h1 := h w (Gw.refl w)
    unfold quietG at h1
    obtain ⟨dst, op, ty, pos, af, g⟩ := o
    cases op <;> simp [isPure] at hp
    all_goals (simp only [execOp] at h1 ⊢; have e := h1.2; rw [← e]; rfl)
  · exact .inr h
theorem yieldsG_of {i : Nat} {o : Oper} {a : Act} {w : World} {K : Act → Prop} (h : if Region.wanted o (yielded ops a.tmps) = true then ∃ v, (∀ w1, Below w.heap.size w w1 → quietG P o a w1 v) ∧ K (a.put o.dst v) else K (a.put o.dst undef)) : ∃ v, YieldsG P ops w o v a ∧ K (a.put o.dst v) := by
  by_cases hw : Region.wanted o (yielded ops a.tmps) = true
  · rw [if_pos hw] at h
    obtain ⟨v, h1, h2⟩ := h
    exact ⟨v, .inl ⟨hw, h1⟩, h2⟩
  · rw [if_neg hw] at h
    exact ⟨undef, .inr ⟨by simpa using hw, rfl⟩, h⟩

theorem headG_lex {n m : Nat} (hsel : Region.noSelect ops = true) (hnm : n ≤ m) (hQ : ∀ c a w, ¬ Q (.panic c) a w) (L T : List Oper) (hL : n + L.length = m) (hLo : ∀ j, j < L.length → L[j]? = ops[n + j]?) (hT : ∀ j, T[j]? = ops[m + j]?) (hTl : L.length + T.length = ops.size - n) :
    ∀ (l : List Oper) (k : Nat) (listed : Array Bool) (a : Act) (w : World), (∀ j, j < l.length → l[j]? = ops[k + j]?) → k + l.length = n → ClosedG md ops listed → ¬ Began m listed →
    headG md ops n m l.length k listed = true → wpQ P ops w (fun a' => ∀ w1, Gw w w1 → wpGrow P ops Q T L a' w1) l a → wpAnyG P md ops Q m (l.length + (L.length + T.length)) listed a w
  | [], k, listed, a, w, _, hk, _, hb, hB, h => by
    obtain rfl : k = n := by simpa using hk
    have := seqGrow (P := P) (Q := Q) (md := md) (n := m) T hT L k listed a w hL hLo hb (by rw [hTl]; simpa [headG] using hB) h
    simpa using this
  | o :: l, k, listed, a, w, hl, hk, hc, hb, hB, h => by
    have h0 : ops[k]? = some o := by simpa using (hl 0 (by simp)).symm
    simp only [List.length_cons, headG, Bool.and_eq_true] at hB
    obtain ⟨⟨⟨hr, hf⟩, hpd⟩, hB'⟩ := hB
    have hkn : k < n := by simp only [List.length_cons] at hk; omega
    have hkm : k < m := by omega
    have hr' : k ∈ Region.ready md ops listed := by simpa using hr
    obtain ⟨v, hy, hK⟩ := yieldsG_of (i := k) h
    have hrec := headG_lex hsel hnm hQ L T hL hLo hT hTl l (k + 1) _ (a.put o.dst v) w (fun j hj => by have := hl (j + 1) (by simp; omega); simpa [Nat.add_assoc, Nat.add_comm 1 j] using this) (by simp only [List.length_cons] at hk; omega) (hc.set hr') (fun h => hb ((Began.set hkm).1 h)) hB' hK
    have e : (o :: l).length + (L.length + T.length) = l.length + (L.length + T.length) + 1 := by simp; omega
    rw [e]
    by_cases hp : isPure o = true
    · exact firstP h0 (Region.noSelect_spec hsel) (fun c a w h => absurd h (hQ _ _ _)) hkm _ listed a w (Region.free_spec h0 hf) hr' (pure_yields hp hy) hrec
    · have hd : ∀ d, m ≤ d → d < ops.size → reachG md ops k ops.size d = true := fun d h1 h2 => by
        rw [h0] at hpd
        simp only [Option.any_some, hp, Bool.false_or] at hpd
        have h3 := List.all_eq_true.1 hpd d (List.mem_range.2 h2)
        have h4 : decide (d < m) = false := by simp; omega
        rw [h4, Bool.false_or] at h3
        exact h3
      exact firstQ h0 (Region.noSelect_spec hsel) (fun c a w h => absurd h (hQ _ _ _)) hkm hd _ listed a w (Region.free_spec h0 hf) hc hb hr' hy hrec

theorem drew_grown (w : World) : Gw w { w with drawn := w.drawn + 1 } := ⟨rfl, rfl, rfl, Nat.le_refl _, fun _ _ => rfl⟩
theorem region_tail {id : Nat} {a : Act} {w : World} {l : List Oper} (n m : Nat) (hm : P.follows .mixedOrders = true) (hB : tailG .any l.toArray n m = true)
    (h : wpQ P l.toArray w (fun a' => ∀ w1, Gw w w1 → wpGrow P l.toArray (NoPanic Q) (l.drop m) ((l.drop n).take (m - n)) a' w1) (l.take n) a) : sw P (.region id l.toArray true) Q a w := by
  simp only [tailG, Bool.and_eq_true, decide_eq_true_eq] at hB
  obtain ⟨⟨⟨hsel, hnm⟩, hms⟩, hB⟩ := hB
  have hn' : m ≤ l.length := by simpa using hms
  have htl : (l.take n).length = n := by simp; omega
  have hL : ((l.drop n).take (m - n)).length = m - n := by simp; omega
  refine sw_mono NoPanic.imp (sw_any hm (wpAny_of_G (n := m) _ _ _ _ ?_))
  have key := headG_lex (P := P) (ops := l.toArray) (Q := NoPanic Q) (md := .any) (n := n) (m := m) hsel hnm (fun c a w h => by simp [NoPanic] at h) ((l.drop n).take (m - n)) (l.drop m) (by rw [hL]; omega)
    (fun j hj => by rw [hL] at hj; simp [List.getElem?_take, List.getElem?_drop, hj]) (fun j => by simp [List.getElem?_drop]) (by rw [hL]; simp; omega) (l.take n) 0 (Array.replicate l.toArray.size false) a w
    (fun j hj => by have : j < n := by rw [htl] at hj; exact hj
                    simp [this]) (by simpa using htl) (fun j oj _ hl => by rw [getD_replicate_false] at hl; cases hl) (fun ⟨d, _, hd⟩ => by rw [getD_replicate_false] at hd; cases hd) (by rw [htl]; exact hB) h
  have e : (l.take n).length + (((l.drop n).take (m - n)).length + (l.drop m).length) = l.toArray.size := by rw [hL]; simp; omega
  rw [e] at key
  exact wpAnyG_mono key ⟨fun ⟨d, _, hd⟩ => (by rw [getD_replicate_false] at hd; cases hd), fun _ => drew_grown w⟩
end

/-- No panic is handed on. -/
def calm (Q : Post) : Post := fun e σ w => match e with
  | .panic _ => False
  | e => Q e σ w
/-- What grows the world, walked. -/
structure wg (P : Program) (n : Nat) (ops : Array Oper) (Q : Post) (T : List Oper) (l : List Oper) (σ : Nat → Value) (w : World) : Prop where mk :: (out : wpGrow P ops (lift n Q) T l (Fr n σ) w)
section
variable {P : Program} {n : Nat} {ops : Array Oper} {Q : Post} {T rest : List Oper} {σ : Nat → Value} {w w' : World} {o : Oper} {v : Value}
theorem wg_nil (h : wl P n ops Q T σ w) : wg P n ops Q T [] σ w := ⟨h.out⟩
theorem wg_val {R : Value → World → Prop} (hw : wantS o ops n σ = true) (h : ∃ v w', Runs P (opv (cut n σ)) o w (.ok (.value v) w') ∧ R v w') (hR : ∀ v w', R v w' → Gw w w')
    (k : ∀ v w', R v w' → ∀ w2, Gw w' w2 → wg P n ops Q T rest (updO σ o.dst v) w2) : wg P n ops Q T (o :: rest) σ w := by
  obtain ⟨v, w', hrun, hr⟩ := h
  refine ⟨?_⟩
  unfold wpGrow
  rw [if_pos (by rw [yielded_eq]; exact hw), Fr_eval, hrun.out]
  exact ⟨hR v w' hr, fun w2 h2 => by have z := (k v w' hr w2 h2).out; rw [← Fr_put] at z; exact z⟩
end
theorem WP_drawGrow {P : Program} {n : Nat} {Q : Post} {σ : Nat → Value} {w : World} {id : Nat} {l : List Oper} (k m : Nat) (hm : P.follows .mixedOrders = true) (hB : tailG .any l.toArray k m = true)
    (h : ql P n l.toArray w (fun σ' => ∀ w', Below w.heap.size w w' → wg P n l.toArray (calm Q) (l.drop m) ((l.drop k).take (m - k)) σ' w') (l.take k) σ) : WP P n (.region id l.toArray true) Q σ w := by
  refine ⟨region_tail k m hm hB ?_⟩
  have hq : lift n (calm Q) = NoPanic (lift n Q) := by
    funext e a w
    cases e <;> simp [lift, calm, NoPanic]
  have mono : ∀ (l' : List Oper) (a : Act), wpQ P l.toArray w (fun a => ∃ σ', a = Fr n σ' ∧ ∀ w', Below w.heap.size w w' → wg P n l.toArray (calm Q) (l.drop m) ((l.drop k).take (m - k)) σ' w') l' a →
      wpQ P l.toArray w (fun a' => ∀ w1, Gw w w1 → wpGrow P l.toArray (NoPanic (lift n Q)) (l.drop m) ((l.drop k).take (m - k)) a' w1) l' a := by
    intro l'
    induction l' with
    | nil => rintro a ⟨σ', rfl, hh⟩ w' hw'; rw [← hq]; exact (hh w' hw').out
    | cons o r ih =>
      intro a ha
      unfold wpQ at ha ⊢
      split
      · rename_i hw; rw [if_pos hw] at ha; obtain ⟨v, h1, h2⟩ := ha; exact ⟨v, h1, ih _ h2⟩
      · rename_i hw; rw [if_neg hw] at ha; exact ih _ ha
  exact mono _ _ h.out
/-- No operation that only grows the world ahead of the tail. -/
theorem WP_drawTail {P : Program} {n : Nat} {Q : Post} {σ : Nat → Value} {w : World} {id : Nat} {l : List Oper} (k : Nat) (hm : P.follows .mixedOrders = true) (hB : tailG .any l.toArray k k = true)
    (h : ql P n l.toArray w (fun σ' => ∀ w', Below w.heap.size w w' → wl P n l.toArray (calm Q) (l.drop k) σ' w') (l.take k) σ) : WP P n (.region id l.toArray true) Q σ w := by
  refine WP_drawGrow k k hm hB ?_
  rw [Nat.sub_self]
  have mono : ∀ (l' : List Oper) (a : Act), wpQ P l.toArray w (fun a => ∃ σ', a = Fr n σ' ∧ ∀ w', Below w.heap.size w w' → wl P n l.toArray (calm Q) (l.drop k) σ' w') l' a →
      wpQ P l.toArray w (fun a => ∃ σ', a = Fr n σ' ∧ ∀ w', Below w.heap.size w w' → wg P n l.toArray (calm Q) (l.drop k) ((l.drop k).take 0) σ' w') l' a := by
    intro l'
    induction l' with
    | nil => rintro a ⟨σ', rfl, hh⟩; exact ⟨σ', rfl, fun w' hw' => wg_nil (hh w' hw')⟩
    | cons o r ih =>
      intro a ha
      unfold wpQ at ha ⊢
      split
      · rename_i hw; rw [if_pos hw] at ha; obtain ⟨v, h1, h2⟩ := ha; exact ⟨v, h1, ih _ h2⟩
      · rename_i hw; rw [if_neg hw] at ha; exact ih _ ha
  exact ⟨mono _ _ h.out⟩
theorem calm_normal {Q : Post} {σ : Nat → Value} {w : World} (h : Q .normal σ w) : calm Q .normal σ w := h

/-- What a call has made and hands back is the caller's own from there on. -/
theorem St.join {w0 w w' : World} {os os' : List Ob} (S : St w0 w os) (S' : St w w' os') : St w0 w' (os ++ os') := by
  have G := S.grow S'.below
  have hle : w0.heap.size ≤ w.heap.size := S.below.size
  refine ⟨G.below, fun x hx => ?_, ?_⟩
  · rcases List.mem_append.1 hx with hx | hx
    · exact G.ok x hx
    · have ho := S'.ok x hx
      cases x with
      | var b T cs => exact ⟨Nat.le_trans hle ho.1, ho.2⟩
      | row v T sz n xs =>
        obtain ⟨h1, h2⟩ := ho
        refine ⟨h1, ?_⟩
        rcases h2 with h2 | ⟨g, cap, cur, hv, hg, r⟩
        · exact .inl h2
        · exact .inr ⟨g, cap, cur, hv, Nat.le_trans hle hg, r⟩
      | raw b o => exact ⟨Nat.le_trans hle ho.1, ho.2⟩
      | pr b p => exact ⟨Nat.le_trans hle ho.1, ho.2⟩
  · refine List.pairwise_append.2 ⟨G.apart, S'.apart, fun a ha b hb => ?_⟩
    cases ha' : a.blk with
    | none => exact .inl rfl
    | some k =>
      refine .inr fun e => ?_
      have h1 := ((S.ok a ha).lt k ha').2
      have h2 := ((S'.ok b hb).lt k e.symm).1
      omega
theorem fl_one {α : Type} {D : Flat α} {x : α} {w : World} {a : Addr} (h : CellsAt w a (fl D [x])) : CellsAt w a (D.enc x) := by simpa [fl] using h
/-- Some of the objects are kept. -/
def keepL : List Bool → List Ob → List Ob
  | true :: m, o :: os => o :: keepL m os
  | false :: m, _ :: os => keepL m os
  | _, _ => []
theorem keepL_sub : ∀ (m : List Bool) (os : List Ob), (keepL m os).Sublist os
  | [], os => by simp [keepL]
  | true :: m, [] => by simp [keepL]
  | false :: m, [] => by simp [keepL]
  | true :: m, o :: os => List.Sublist.cons_cons o (keepL_sub m os)
  | false :: m, o :: os => List.Sublist.cons o (keepL_sub m os)
theorem St.keep {w0 w : World} {os : List Ob} (S : St w0 w os) (m : List Bool) : St w0 w (keepL m os) := S.sub (keepL_sub m os)
end Go.Gx
/-
  More operations, once more.
-/
namespace Go.Gx
open Go Go.RowKit
set_option linter.unusedVariables false
set_option linter.unusedSimpArgs false

theorem r_indexAddrArrE {P : Program} {ρ : Operand → Value} {w : World} {d : Option Tmp} {ty : TypeId} {pos : String} {af : Array Edge} {g : Option (Nat × Bool)} {T : TypeId} {s t : Operand} {v : Value} {z j n sz : Nat} {k : IntKind} {i : Int} {e : TypeId} {ag : Bool} [hT : IsArr P T n e] [hS : TF P e ag sz] (h1 : ρ s = .pointer (some (elemAddr v z j))) (h2 : ρ t = .int k i) (h0 : 0 ≤ i) (hl : i < n) :
    Runs P ρ ⟨d, .indexAddr T s t, ty, pos, af, g⟩ w (.ok (.value (.pointer (some ((elemAddr v z j).add (i.toNat * sz))))) w) := r_indexAddrArr h1 h2 h0 hl
theorem r_nilCheck {P : Program} {ρ : Operand → Value} {w : World} {d : Option Tmp} {ty : TypeId} {pos : String} {af : Array Edge} {g : Option (Nat × Bool)} {s : Operand} {a : Addr} (h1 : ρ s = .pointer (some a)) :
    Runs P ρ ⟨d, .nilCheck s, ty, pos, af, g⟩ w (.ok (.value (.pointer (some a))) w) := ⟨by simp [execOp, h1, pure, bind, Sem.bind, Sem.run]⟩
/-- A method bound to its receiver. -/
theorem r_makeFnB1 {P : Program} {ρ : Operand → Value} {w : World} {d : Option Tmp} {ty : TypeId} {pos : String} {af : Array Edge} {g : Option (Nat × Bool)} {f : Fn} {a0 : Operand} {v0 : Value} (h0 : ρ a0 = v0) : Runs P ρ ⟨d, .makeFunc f #[a0] #[], ty, pos, af, g⟩ w (.ok (.value (.func f #[v0] [].toArray)) w) :=
  ⟨by simp [execOp, Instr.makeFunc, pure, bind, Sem.bind, Sem.run, h0]⟩
/-- A call that may write what is told. -/
structure CallsW (P : Program) (f : FuncId) (args : Array Value) (w : World) (R : Value → World → Prop) : Prop where mk :: (out : Calls P f args w fun e w' => ∃ v, e = .returned v ∧ R v w')
theorem st_callW {P : Program} {n : Nat} {ops : Array Oper} {Q : Post} {σ : Nat → Value} {w : World} {o : Oper} {rest : List Oper} {f : FuncId} {args : Array Value} {R : Value → World → Prop} (hw : wantS o ops n σ = true) (hrun : Runs P (opv (cut n σ)) o w (.ok (.enter f args) w))
    (hc : CallsW P f args w R) (k : ∀ v w1, R v w1 → wl P n ops Q rest (updO σ o.dst v) w1) : wl P n ops Q (o :: rest) σ w :=
  st_enter hw hrun hc.out fun _ w1 ⟨v, he, hR⟩ => ⟨v, he, k v w1 hR⟩
/-! Results of any kind. -/
theorem loadVarA {P : Program} {T sz b i : Nat} {w0 w : World} {os : List Ob} {T' : TypeId} {cs : List Value} [hT : TF P T true sz] (S : St w0 w os) (hi : os[i]? = some (.var b T' cs)) (hl : cs.length = sz) : (do loadVar T (← asAddr (.pointer (some ⟨b, 0, none⟩))) : Sem Value).run P w = .ok (.agg cs.toArray) w := by
  have hc := S.var hi
  have hl' : (loadCells ⟨b, 0, none⟩ sz).run P w = .ok cs.toArray w := by subst hl; exact run_loadCells_list (P := P) (w := w) _ cs hc.2.2
  refine (run_bind (a := (⟨b, 0, none⟩ : Addr)) rfl).trans ?_
  simp only [loadVar]
  refine (run_bind (hT.isAgg w)).trans ?_
  refine (run_bind (hT.sizeOf w)).trans ?_
  exact run_bind hl'
end Go.Gx
/-
  Objects of a call, told in another order; rows of rows.
-/
namespace Go.Gx
open Go Go.RowKit
set_option linter.unusedVariables false
set_option linter.unusedSimpArgs false

theorem St.perm {w0 w : World} {os os' : List Ob} (S : St w0 w os) (h : os.Perm os') : St w0 w os' :=
  ⟨S.below, fun o ho => S.ok o (h.mem_iff.2 ho), h.pairwise S.apart fun {a b} hab => by
    rcases hab with h | h
    · cases hb : b.blk with
      | none => exact .inl rfl
      | some k => rw [h]; exact .inr (by simp)
    · exact .inr (Ne.symm h)⟩
theorem St.front {w0 w : World} {os : List Ob} {o : Ob} (S : St w0 w (os ++ [o])) : St w0 w (o :: os) := S.perm (List.perm_append_singleton _ _)
/-- The first object is set behind a known list. -/
theorem St.into {w0 w : World} {os ex : List Ob} {o : Ob} (S : St w0 w (o :: (os ++ ex))) : St w0 w (os ++ (o :: ex)) := S.perm List.perm_middle.symm
theorem St.outof {w0 w : World} {os ex : List Ob} {o : Ob} (S : St w0 w (os ++ (o :: ex))) : St w0 w (o :: (os ++ ex)) := S.perm List.perm_middle
theorem St.tail {w0 w : World} {os : List Ob} {o : Ob} (S : St w0 w (o :: os)) : St w0 w os := S.sub (List.sublist_cons_self _ _)
theorem St.eqos {w0 w : World} {os os' : List Ob} (S : St w0 w os) (h : os = os') : St w0 w os' := h ▸ S

section
variable {P : Program} {ρ : Operand → Value} {w w0 : World} {d : Option Tmp} {ty : TypeId} {pos : String} {af : Array Edge} {g : Option (Nat × Bool)} {T T' : TypeId} {s t : Operand} {os : List Ob}
/-- A slice is compared with nil. -/
theorem r_eqlNil {e : TypeId} {A : Option Addr} {n c : Nat} [hT : IsSlice P T e] (h1 : ρ s = .slice A n c) (h2 : ρ t = .slice none 0 0) : Runs P ρ ⟨d, .binOp .eql T s t T', ty, pos, af, g⟩ w (.ok (.value (.bool A.isNone)) w) := ⟨by
  have := Lib.run_eql_slice_nil (P := P) w T e A n c 0 0 hT.out
  simp only [execOp, h1, h2]
  exact run_bind this⟩
/-- An empty literal. -/
theorem r_lit0 {α : Type} {D : Flat α} {e : TypeId} {bytes : Nat} {z : Value} [hT : IsSlice P T e] [hI : TI P e z D.sz bytes] (S : St w0 w os) :
    ∃ v' w', Runs P ρ ⟨d, .buildSlice T 0 #[], ty, pos, af, g⟩ w (.ok (.value v') w') ∧ Below w.heap.size w w' ∧ St w0 w' (os ++ [rowOb D e v' ([] : List α)]) := by
  obtain ⟨i, hi, hz', hs, _⟩ := hI.out
  refine ⟨.slice (some ⟨w.heap.size, 0, none⟩) 0 0, w.alloc (.cells #[] e), ⟨?_⟩, below_alloc _ _, S.new (below_alloc _ _) ?_⟩
  · simp only [execOp, Instr.buildSlice]
    refine run_bind (a := Value.slice (some ⟨w.heap.size, 0, none⟩) 0 0) ?_
    refine (run_bind (run_underlying' hT.out)).trans ?_
    refine (run_bind (run_sizeOf' hi)).trans ?_
    have hle : ¬ (0 > 2 ^ 24) := by decide
    simp only [Nat.zero_mul, hle, if_false, if_true]
    refine (run_bind (a := #[]) rfl).trans ?_
    have hf : Instr.fill (fun j => some (j * i.size, i.size)) ((Array.range 0).map fun x => (#[] : Array Value)[x % (#[] : Array Value).size]!) (Array.map (fun x : Nat × Operand => (x.1, ρ x.2)) #[]).toList = some #[] := by simp [Instr.fill]
    simp only [hf]
    rfl
  · exact ⟨by simp [fl], .inr ⟨w.heap.size, 0, #[], rfl, Nat.le_refl _, by simpa using heap_alloc_new w (.cells #[] e), Nat.zero_le _, Nat.zero_le _, by simp, by simp [fl]⟩⟩
end
theorem fl_setF {α : Type} (D : Flat α) (x' : α) (off : Nat) (vs : List Value) (hf : off + vs.length ≤ D.sz) : ∀ (l : List α) (i : Nat) (x : α), l[i]? = some x → D.enc x' = splice (D.enc x) off vs → splice (fl D l) (i * D.sz + off) vs = fl D (l.set i x') := by
  intro l
  induction l with
  | nil => intro i x hx; simp at hx
  | cons y r ih =>
    intro i x hx he
    cases i with
    | zero =>
      simp at hx; subst hx
      simp only [splice, fl, List.flatMap_cons, List.set_cons_zero, Nat.zero_mul, Nat.zero_add] at he ⊢
      rw [he, List.take_append_of_le_length (by rw [D.len]; omega), List.drop_append_of_le_length (by rw [D.len]; omega)]
      simp only [List.append_assoc]
    | succ i =>
      have h := ih i x (by simpa using hx) he
      have e1 : (i + 1) * D.sz + off = D.sz + (i * D.sz + off) := by rw [Nat.add_mul]; omega
      simp only [splice, fl, List.flatMap_cons, List.set_cons_succ] at h ⊢
      rw [← h, e1, List.take_append, D.len, List.drop_append, D.len]
      rw [List.take_of_length_le (by rw [D.len]; omega), List.drop_eq_nil_of_le (by rw [D.len]; omega)]
      simp only [List.nil_append, List.append_assoc]
      congr 3
      · omega
      · rw [show D.sz + (i * D.sz + off) + vs.length - D.sz = i * D.sz + off + vs.length by omega]
section
variable {P : Program} {ρ : Operand → Value} {w w0 : World} {d : Option Tmp} {ty : TypeId} {pos : String} {af : Array Edge} {g : Option (Nat × Bool)} {T T' : TypeId} {s t : Operand} {os : List Ob}
end
section
variable {P : Program} {ρ : Operand → Value} {w w0 : World} {d : Option Tmp} {ty : TypeId} {pos : String} {af : Array Edge} {g : Option (Nat × Bool)} {T T' : TypeId} {s t : Operand} {x y : Int}
end
end Go.Gx
/-
  Maps of the call's own: their entries told as a list.
-/
namespace Go.Gx
open Go Go.RowKit
set_option linter.unusedVariables false
set_option linter.unusedSimpArgs false

/-- The entries of a map, the first one born at i. -/
def mEs {K V : Type} (eK : K → Value) (eV : V → Value) : List (K × V) → Nat → List MapEntry
  | [], _ => []
  | x :: r, i => { key := eK x.1, val := eV x.2, born := i } :: mEs eK eV r (i + 1)
abbrev mapOb {K V : Type} (eK : K → Value) (eV : V → Value) (b : Nat) (l : List (K × V)) : Ob := .raw b (.map (mEs eK eV l 0).toArray l.length)
def mFind {K V : Type} [DecidableEq K] (k : K) (eV : V → Value) : List (K × V) → Nat → Option (Nat × Value)
  | [], _ => none
  | x :: r, i => if k = x.1 then some (i, eV x.2) else mFind k eV r (i + 1)
def mGet {K V : Type} [DecidableEq K] (k : K) : List (K × V) → Option V
  | [] => none
  | x :: r => if k = x.1 then some x.2 else mGet k r
def mPut {K V : Type} [DecidableEq K] (k : K) (v : V) : List (K × V) → List (K × V)
  | [] => [(k, v)]
  | x :: r => if k = x.1 then (x.1, v) :: r else x :: mPut k v r
theorem mEs_length {K V : Type} (eK : K → Value) (eV : V → Value) : ∀ (l : List (K × V)) (i : Nat), (mEs eK eV l i).length = l.length
  | [], _ => rfl
  | _ :: r, i => by simp [mEs, mEs_length eK eV r (i + 1)]
theorem mEs_append {K V : Type} (eK : K → Value) (eV : V → Value) : ∀ (l r : List (K × V)) (i : Nat), mEs eK eV (l ++ r) i = mEs eK eV l i ++ mEs eK eV r (i + l.length)
  | [], r, i => by simp [mEs]
  | x :: l, r, i => by simp [mEs, mEs_append eK eV l r (i + 1)]; congr 1; omega
theorem mFind_get {K V : Type} [DecidableEq K] (k : K) (eV : V → Value) : ∀ (l : List (K × V)) (i : Nat), (mFind k eV l i).map (·.2) = (mGet k l).map eV
  | [], _ => rfl
  | x :: r, i => by
    unfold mFind mGet
    split
    · rfl
    · exact mFind_get k eV r (i + 1)
theorem mFind_none {K V : Type} [DecidableEq K] (k : K) (v : V) (eV : V → Value) : ∀ (l : List (K × V)) (i : Nat), mFind k eV l i = none → mPut k v l = l ++ [(k, v)]
  | [], _, _ => rfl
  | x :: r, i, h => by
    unfold mFind at h
    unfold mPut
    split at h
    · cases h
    · rename_i hk
      rw [if_neg hk, mFind_none k v eV r (i + 1) h]; rfl
theorem mFind_some {K V : Type} [DecidableEq K] (k : K) (v : V) (eK : K → Value) (eV : V → Value) : ∀ (l : List (K × V)) (i j : Nat) (u : Value), mFind k eV l i = some (j, u) → i ≤ j ∧ j < i + l.length ∧ (∃ e, (mEs eK eV l i)[j - i]? = some e ∧ e.key = eK k) ∧ mEs eK eV (mPut k v l) i = (mEs eK eV l i).modify (j - i) (fun e => { e with key := eK k, val := eV v }) ∧ (mPut k v l).length = l.length
  | [], _, _, _, h => by cases h
  | x :: r, i, j, u, h => by
    unfold mFind at h
    split at h
    · rename_i hk
      cases h
      subst hk
      refine ⟨Nat.le_refl _, by simp, ?_, ?_, ?_⟩
      · rw [Nat.sub_self]; exact ⟨_, rfl, rfl⟩
      · rw [Nat.sub_self]; unfold mPut; rw [if_pos rfl]; rfl
      · unfold mPut; rw [if_pos rfl]; rfl
    · rename_i hk
      obtain ⟨h1, h2, ⟨e, h3, h3'⟩, h4, h5⟩ := mFind_some k v eK eV r (i + 1) j u h
      have e1 : j - i = (j - (i + 1)) + 1 := by omega
      refine ⟨by omega, by simp; omega, ⟨e, by rw [e1]; exact h3, h3'⟩, ?_, ?_⟩
      · unfold mPut; rw [if_neg hk, e1]
        show _ :: mEs eK eV (mPut k v r) (i + 1) = _
        rw [h4]; rfl
      · unfold mPut; rw [if_neg hk]; simp [h5]

theorem getObj_run {P : Program} {w : World} {r : Nat} {es : Array MapEntry} {c : Nat} (h : w.heap[r]? = some (.map es c)) : (getObj r).run P w = .ok (.map es c) w := by simp [getObj, Sem.run, h]
theorem setObj_run {P : Program} {w : World} {r : Nat} {es : Array MapEntry} {c : Nat} (o' : Obj) (h : w.heap[r]? = some (.map es c)) : (setObj r o').run P w = .ok () { w with heap := w.heap.setIfInBounds r o' } := by simp [setObj, Sem.run, h]
/-- Keys of a map, by what they are told as. -/
class MKey (P : Program) (T : TypeId) {K : Type} [DecidableEq K] (eK : K → Value) : Prop where
  find : ∀ {V : Type} (eV : V → Value) (k : K) (l : List (K × V)) (w : World), (Instr.findKey T (eK k) (mEs eK eV l 0)).run P w = .ok (mFind k eV l 0) w
  check : ∀ (e : Bool) (k : K) (w : World), (Instr.checkKey e 10000 T (eK k)).run P w = .ok () w
  same : ∀ k : K, Instr.sameBits 10000 (eK k) (eK k) = true
class IsMap (P : Program) (T : TypeId) (k e : outParam TypeId) : Prop where out : P.underlying T = some (.map k e)

section
variable {P : Program} {w : World} {T : TypeId}
theorem findNow_int {V : Type} {q : IntKind} (eV : V → Value) (k : Int) : ∀ (l : List (Int × V)) (i : Nat), Instr.findNow (.int q) (.int .i64 k) (mEs (fun x => .int .i64 x) eV l i) i = some (mFind k eV l i)
  | [], _ => rfl
  | x :: r, i => by
    have ih := findNow_int (q := q) eV k r (i + 1)
    unfold mEs mFind Instr.findNow
    by_cases h : k = x.1
    · simp [Instr.sameNow, h]
    · have hb : (k == x.1) = false := by simpa using h
      simp [Instr.sameNow, h, hb, ih]
theorem MKey.int {q : IntKind} (h : P.underlying T = some (.int q)) : MKey P T (fun x : Int => Value.int .i64 x) where
  find eV k l w := by
    unfold Instr.findKey
    refine (run_bind (run_underlying' h)).trans ?_
    rw [findNow_int]; rfl
  check e k w := by
    have e1 : (10000 : Nat) = 9999 + 1 := rfl
    rw [e1, Instr.checkKey]
    refine (run_bind (run_underlying' h)).trans ?_
    rfl
  same k := by simp [Instr.sameBits]
theorem findAsking_agg {K V : Type} [DecidableEq K] {eK : K → Value} (eV : V → Value) (hE : ∀ (a b : K) (w : World), (Op.equal T (eK a) (eK b)).run P w = .ok (decide (a = b)) w) (k : K) : ∀ (l : List (K × V)) (i : Nat) (w : World), (Instr.findAsking T (eK k) (mEs eK eV l i) i).run P w = .ok (mFind k eV l i) w
  | [], _, _ => rfl
  | x :: r, i, w => by
    have ih := findAsking_agg eV hE k r (i + 1) w
    unfold mEs mFind Instr.findAsking
    refine (run_bind (hE k x.1 w)).trans ?_
    by_cases h : k = x.1
    · simp [h]
    · simp [h, ih]
theorem MKey.agg {K : Type} [DecidableEq K] {eK : K → Value} {fs : Array Field} (h : P.underlying T = some (.struct fs)) (ha : ∀ k, ∃ cs, eK k = .agg cs) (hE : ∀ (a b : K) (w : World), (Op.equal T (eK a) (eK b)).run P w = .ok (decide (a = b)) w)
    (hc : ∀ (e : Bool) (k : K) (w : World), (Instr.checkKey e 10000 T (eK k)).run P w = .ok () w) (hs : ∀ k : K, Instr.sameBits 10000 (eK k) (eK k) = true) : MKey P T eK where
  find eV k l w := by
    unfold Instr.findKey
    refine (run_bind (run_underlying' h)).trans ?_
    obtain ⟨cs, hk⟩ := ha k
    cases l with
    | nil => rfl
    | cons x r =>
      have hn : Instr.findNow (.struct fs) (eK k) (mEs eK eV (x :: r) 0) 0 = none := by
        unfold mEs Instr.findNow
        rw [hk]; simp [Instr.sameNow]
      rw [hn]
      exact findAsking_agg eV hE k (x :: r) 0 w
  check := hc
  same := hs
end
section
variable {P : Program} {ρ : Operand → Value} {w w0 : World} {d : Option Tmp} {ty : TypeId} {pos : String} {af : Array Edge} {g : Option (Nat × Bool)} {T : TypeId} {s t u : Operand} {os : List Ob} {K V : Type} [DecidableEq K] {eK : K → Value} {eV : V → Value}
/-- What a map holds, in a world. -/
abbrev MapAt (w : World) (b : Nat) (eK : K → Value) (eV : V → Value) (l : List (K × V)) : Prop := w.heap[b]? = some (.map (mEs eK eV l 0).toArray l.length)
omit [DecidableEq K] in
theorem MapAt.mono {b : Nat} {l : List (K × V)} {w w' : World} (h : MapAt w b eK eV l) (hb : Below w.heap.size w w') : MapAt w' b eK eV l := by
  unfold MapAt at *
  rw [hb.block b (heap_lt h)]; exact h
omit [DecidableEq K] in
theorem St.mapAt {i b : Nat} {l : List (K × V)} (S : St w0 w os) (hi : os[i]? = some (mapOb eK eV b l)) : MapAt w b eK eV l := (S.ok _ (mem_of_get hi)).2
omit [DecidableEq K] in
theorem r_makeMap (S : St w0 w os) : ∃ v' w', Runs P ρ ⟨d, .makeMap T none, ty, pos, af, g⟩ w (.ok (.value v') w') ∧ ∃ b, v' = .map (some b) ∧ Below w.heap.size w w' ∧ St w0 w' (os ++ [mapOb eK eV b []]) := by
  refine ⟨.map (some w.heap.size), w.alloc (.map #[] 0), ⟨?_⟩, w.heap.size, rfl, below_alloc _ _, S.new (below_alloc _ _) ⟨Nat.le_refl _, by simpa [mEs] using heap_alloc_new w _⟩⟩
  simp only [execOp, Option.map_none, Instr.makeMap]
  rfl
theorem r_lookupH {kT eT : TypeId} {size bytes b : Nat} {z : Value} {l : List (K × V)} {k : K} [hM : IsMap P T kT eT] [hK : MKey P kT eK] [hI : TI P eT z size bytes] (hh : MapAt w b eK eV l) (h1 : ρ s = .map (some b)) (h2 : ρ t = eK k) :
    Runs P ρ ⟨d, .lookup T s t true, ty, pos, af, g⟩ w (.ok (.value (.tuple #[((mGet k l).map eV).getD z, .bool (mGet k l).isSome])) w) := by
  obtain ⟨ti, hti, hz, _⟩ := hI.out
  refine ⟨?_⟩
  simp only [execOp, h1, h2]
  refine run_bind (a := Value.tuple #[((mGet k l).map eV).getD z, .bool (mGet k l).isSome]) ?_
  unfold Instr.lookup
  refine (run_bind (run_underlying' hM.out)).trans ?_
  have hg := getObj_run (P := P) hh
  have hf := hK.find eV k l w
  have hfg := mFind_get k eV l 0
  have hc := hK.check (mEs eK eV l 0).isEmpty k w
  have hzr : (zeroValue eT).run P w = .ok z w := run_zeroValue' hti hz
  cases hm : mFind k eV l 0 with
  | none =>
    rw [hm] at hf hfg
    have hn : mGet k l = none := by cases e : mGet k l with
      | none => rfl
      | some x => rw [e] at hfg; cases hfg
    simp [hg, hf, hc, hzr, hn]
  | some p =>
    rw [hm] at hf hfg
    obtain ⟨x, hx⟩ : ∃ x, mGet k l = some x := by cases e : mGet k l with
      | none => rw [e] at hfg; cases hfg
      | some x => exact ⟨x, rfl⟩
    rw [hx] at hfg
    have hp : p.2 = eV x := by simpa using hfg
    obtain ⟨p1, p2⟩ := p
    simp at hp
    simp [hg, hf, hc, hx, hp]
theorem r_lookup1H {kT eT : TypeId} {size bytes b : Nat} {z : Value} {l : List (K × V)} {k : K} [hM : IsMap P T kT eT] [hK : MKey P kT eK] [hI : TI P eT z size bytes] (hh : MapAt w b eK eV l) (h1 : ρ s = .map (some b)) (h2 : ρ t = eK k) :
    Runs P ρ ⟨d, .lookup T s t false, ty, pos, af, g⟩ w (.ok (.value (((mGet k l).map eV).getD z)) w) := by
  obtain ⟨ti, hti, hz, _⟩ := hI.out
  refine ⟨?_⟩
  simp only [execOp, h1, h2]
  refine run_bind (a := ((mGet k l).map eV).getD z) ?_
  unfold Instr.lookup
  refine (run_bind (run_underlying' hM.out)).trans ?_
  have hg := getObj_run (P := P) hh
  have hf := hK.find eV k l w
  have hfg := mFind_get k eV l 0
  have hc := hK.check (mEs eK eV l 0).isEmpty k w
  have hzr : (zeroValue eT).run P w = .ok z w := run_zeroValue' hti hz
  cases hm : mFind k eV l 0 with
  | none =>
    rw [hm] at hf hfg
    have hn : mGet k l = none := by cases e : mGet k l with
      | none => rfl
      | some x => rw [e] at hfg; cases hfg
    simp [hg, hf, hc, hzr, hn]
  | some p =>
    rw [hm] at hf hfg
    obtain ⟨x, hx⟩ : ∃ x, mGet k l = some x := by cases e : mGet k l with
      | none => rw [e] at hfg; cases hfg
      | some x => exact ⟨x, rfl⟩
    rw [hx] at hfg
    have hp : p.2 = eV x := by simpa using hfg
    obtain ⟨p1, p2⟩ := p
    simp at hp
    simp [hg, hf, hc, hx, hp]
theorem r_mapUpdate {kT eT : TypeId} {i b : Nat} {l : List (K × V)} {k : K} {v : V} [hM : IsMap P T kT eT] [hK : MKey P kT eK] (S : St w0 w os) (hi : os[i]? = some (mapOb eK eV b l)) (h1 : ρ s = .map (some b)) (h2 : ρ t = eK k) (h3 : ρ u = eV v) :
    ∃ w', Runs P ρ ⟨d, .mapUpdate T s t u, ty, pos, af, g⟩ w (.ok .skip w') ∧ St w0 w' (os.set i (mapOb eK eV b (mPut k v l))) := by
  have hh := S.ok _ (mem_of_get hi)
  have hg := getObj_run (P := P) hh.2
  have hf := hK.find eV k l w
  have hc := hK.check false k w
  have hlt : b < w.heap.size := heap_lt hh.2
  have wr : ∀ l' : List (K × V), St w0 { w with heap := w.heap.setIfInBounds b (.map (mEs eK eV l' 0).toArray l'.length) } (os.set i (mapOb eK eV b l')) := fun l' => by
    refine S.write hi ⟨rfl, rfl, rfl, by simp, fun j hj hne => ?_⟩ ⟨hh.1, by simp [hlt]⟩ (.inl rfl)
    have : b ≠ j := fun e => hne (by rw [e]; rfl)
    simp [Array.getElem?_setIfInBounds, this]
  have key : ∃ w', (Instr.mapUpdate T (.map (some b)) (eK k) (eV v)).run P w = .ok () w' ∧ St w0 w' (os.set i (mapOb eK eV b (mPut k v l))) := by
    refine ⟨_, ?_, wr (mPut k v l)⟩
    unfold Instr.mapUpdate
    refine (run_bind (run_underlying' hM.out)).trans ?_
    refine (run_bind hg).trans ?_
    refine (run_bind hc).trans ?_
    have hf' : (Instr.findKey kT (eK k) (mEs eK eV l 0).toArray.toList).run P w = .ok (mFind k eV l 0) w := hf
    refine (run_bind hf').trans ?_
    cases hm : mFind k eV l 0 with
    | none =>
      have hp := mFind_none k v eV l 0 hm
      have e1 : (mEs eK eV l 0).toArray.push { key := eK k, val := eV v, born := l.length } = (mEs eK eV (mPut k v l) 0).toArray := by
        rw [hp, mEs_append]; simp [mEs]
      have e2 : l.length + 1 = (mPut k v l).length := by rw [hp]; simp
      show (setObj b (.map ((mEs eK eV l 0).toArray.push { key := eK k, val := eV v, born := l.length }) (l.length + 1))).run P w = _
      rw [e1, e2]
      exact setObj_run _ hh.2
    | some p =>
      obtain ⟨j, u⟩ := p
      obtain ⟨h4, h5, ⟨e, h6, h7⟩, h8, h9⟩ := mFind_some k v eK eV l 0 j u hm
      rw [Nat.sub_zero] at h6 h8
      have hkey : (((mEs eK eV l 0).toArray[j]?).map (·.key)).getD (eK k) = eK k := by
        rw [List.getElem?_toArray, h6]; exact h7
      have hst : (Instr.keyThatStays (eK k) (eK k)).run P w = .ok (eK k) w := by
        unfold Instr.keyThatStays; rw [if_pos (hK.same k)]; rfl
      have e1 : ((mEs eK eV l 0).toArray.modify j fun e => { e with key := eK k, val := eV v }) = (mEs eK eV (mPut k v l) 0).toArray := by
        rw [h8]; simp
      show (do let key ← Instr.keyThatStays ((((mEs eK eV l 0).toArray[j]?).map (·.key)).getD (eK k)) (eK k); setObj b (.map ((mEs eK eV l 0).toArray.modify j fun e => { e with key, val := eV v }) l.length) : Sem Unit).run P w = _
      rw [hkey]
      refine (run_bind hst).trans ?_
      rw [e1, ← h9]
      exact setObj_run _ hh.2
  obtain ⟨w', hr, S'⟩ := key
  refine ⟨w', ⟨?_⟩, S'⟩
  simp only [execOp, h1, h2, h3]
  exact run_bind hr
theorem mEs_get {K V : Type} (eK : K → Value) (eV : V → Value) : ∀ (l : List (K × V)) (i m : Nat), (mEs eK eV l i)[m]? = (l[m]?).map fun x => { key := eK x.1, val := eV x.2, born := i + m }
  | [], _, _ => by simp [mEs]
  | x :: r, i, 0 => by simp [mEs]
  | x :: r, i, m + 1 => by
    have := mEs_get eK eV r (i + 1) m
    simp only [mEs, List.getElem?_cons_succ, this]
    congr 1; funext y; congr 1; omega
theorem run_choice {P : Program} {w : World} {n : Nat} (h : 0 < n) : ∃ i w1, (choose (.mapNext n)).run P w = .ok i w1 ∧ i < n ∧ Below w.heap.size w w1 := by
  rw [run_choose_drew]
  split
  · exact ⟨0, w, rfl, h, Below.refl _ _⟩
  · exact ⟨_, w.drew, rfl, Nat.mod_lt _ h, drew_grown w⟩
abbrev iterOb (b bi n : Nat) (seen : Array Nat) : Ob := .raw bi (.mapIter (some b) n seen n)
omit [DecidableEq K] in
theorem r_rangeH {kT eT : TypeId} {b : Nat} {l : List (K × V)} [hM : IsMap P T kT eT] (S : St w0 w os) (hh : MapAt w b eK eV l) (h1 : ρ s = .map (some b)) :
    ∃ v' w', Runs P ρ ⟨d, .range T s, ty, pos, af, g⟩ w (.ok (.value v') w') ∧ ∃ bi, v' = .pointer (some ⟨bi, 0, none⟩) ∧ Below w.heap.size w w' ∧ St w0 w' (os ++ [iterOb b bi l.length #[]]) := by
  have hg := getObj_run (P := P) hh
  refine ⟨.pointer (some ⟨w.heap.size, 0, none⟩), w.alloc (.mapIter (some b) l.length #[] l.length), ⟨?_⟩, w.heap.size, rfl, below_alloc _ _, S.new (below_alloc _ _) ⟨Nat.le_refl _, by simpa using heap_alloc_new w _⟩⟩
  simp only [execOp, h1]
  refine run_bind (a := Value.pointer (some ⟨w.heap.size, 0, none⟩)) ?_
  unfold Instr.range
  refine (run_bind (run_underlying' hM.out)).trans ?_
  simp [hg]
omit [DecidableEq K] in
theorem r_nextH {j b bi : Nat} {l : List (K × V)} {seen : Array Nat} (S : St w0 w os) (hh : MapAt w b eK eV l) (hj : os[j]? = some (iterOb b bi l.length seen)) (h1 : ρ s = .pointer (some ⟨bi, 0, none⟩)) :
    ∃ v' w', Runs P ρ ⟨d, .next s false, ty, pos, af, g⟩ w (.ok (.value v') w') ∧ ((v' = .tuple #[.bool false] ∧ (∀ m, m < l.length → m ∈ seen) ∧ St w0 w' os) ∨
      ∃ m x, m ∉ seen ∧ l[m]? = some x ∧ v' = .tuple #[.bool true, eK x.1, eV x.2] ∧ St w0 w' (os.set j (iterOb b bi l.length (seen.push m)))) := by
  have hit := S.ok _ (mem_of_get hj)
  have hg := getObj_run (P := P) hh
  have hgi : (getObj bi).run P w = .ok (.mapIter (some b) l.length seen l.length) w := by simp [getObj, Sem.run, hit.2]
  have hlt : bi < w.heap.size := heap_lt hit.2
  -- the entries that are left
  have hmem : ∀ e ∈ (mEs eK eV l 0), ∃ m x, l[m]? = some x ∧ e = { key := eK x.1, val := eV x.2, born := m } := fun e he => by
    obtain ⟨m, hm⟩ := List.getElem?_of_mem he
    rw [mEs_get] at hm
    cases hx : l[m]? with
    | none => rw [hx] at hm; cases hm
    | some x => rw [hx] at hm; exact ⟨m, x, hx, by cases hm; simp⟩
  have hlow : ∀ e ∈ (mEs eK eV l 0), e.born < l.length := fun e he => by
    obtain ⟨m, x, hx, rfl⟩ := hmem e he
    exact (List.getElem?_eq_some_iff.1 hx).1
  obtain ⟨L, hL⟩ : ∃ L, L = (mEs eK eV l 0).filter (fun e => !seen.contains e.born) := ⟨_, rfl⟩
  have hLm : ∀ e ∈ L, ∃ m x, m ∉ seen ∧ l[m]? = some x ∧ e = { key := eK x.1, val := eV x.2, born := m } := fun e he => by
    rw [hL] at he
    obtain ⟨h1, h2⟩ := List.mem_filter.1 he
    obtain ⟨m, x, hx, rfl⟩ := hmem e h1
    exact ⟨m, x, by simpa using h2, hx, rfl⟩
  have hLe : L = [] → ∀ m, m < l.length → m ∈ seen := fun h m hml => by
    obtain ⟨x, hx⟩ : ∃ x, l[m]? = some x := ⟨_, List.getElem?_eq_getElem hml⟩
    have hin : ({ key := eK x.1, val := eV x.2, born := m } : MapEntry) ∈ mEs eK eV l 0 := by
      refine List.mem_of_getElem? (i := m) ?_
      rw [mEs_get, hx]; simp
    rw [hL, List.filter_eq_nil_iff] at h
    have := h _ hin
    simpa using this
  have hold : L.filter (fun e => decide (e.born < l.length)) = L := by
    rw [List.filter_eq_self]
    intro e he
    rw [hL] at he
    exact decide_eq_true (hlow e (List.mem_filter.1 he).1)
  have hnew : L.filter (fun e => decide (e.born ≥ l.length)) = [] := by
    rw [List.filter_eq_nil_iff]
    intro e he
    rw [hL] at he
    have := hlow e (List.mem_filter.1 he).1
    simp; omega
  have hcond : (!seen.isEmpty && !(mEs eK eV l 0).toArray.isEmpty && (mEs eK eV l 0).toArray.all fun e => decide (e.born ≥ l.length)) = false := by
    cases l with
    | nil => simp [mEs]
    | cons x r => simp [mEs]
  have hleft : ((mEs eK eV l 0).toArray.filter fun e => !seen.contains e.born) = L.toArray := by rw [hL]; simp
  have hold' : (L.toArray.filter fun e => decide (e.born < l.length)) = L.toArray := by rw [List.filter_toArray, hold]
  have hnew' : (L.toArray.filter fun e => decide (e.born ≥ l.length)) = #[] := by rw [List.filter_toArray, hnew]
  by_cases hLn : L = []
  · obtain ⟨q, w1, hc, hq, hb⟩ := run_choice (P := P) (w := w) (n := 1) (by omega)
    refine ⟨.tuple #[.bool false], w1, ⟨?_⟩, .inl ⟨rfl, hLe hLn, S.grow hb⟩⟩
    simp only [execOp, h1]
    refine run_bind (a := Value.tuple #[.bool false]) ?_
    have hq0 : q = 0 := by omega
    subst hq0
    subst hLn
    simp only [Instr.next, Sem.run_bind, hgi, hg, Result.andThen_ok, hcond, Bool.false_eq_true, if_false, hleft, hold', hnew']
    have ec : ((if (#[] : Array MapEntry).isEmpty = true then #[none] else #[]) ++ Array.map some ((#[] : Array MapEntry) ++ #[]) : Array (Option MapEntry)) = #[none] := by simp
    rw [ec, show (#[none] : Array (Option MapEntry)).size = 1 from rfl, hc]
    rfl
  · obtain ⟨q, w1, hc, hq, hb⟩ := run_choice (P := P) (w := w) (n := L.length) (by cases L with | nil => exact absurd rfl hLn | cons _ _ => simp)
    have hLq : L[q]? = some L[q] := List.getElem?_eq_getElem hq
    obtain ⟨m, x, hmn, hx, he⟩ := hLm L[q] (List.getElem_mem hq)
    have hit1 : w1.heap[bi]? = some (.mapIter (some b) l.length seen l.length) := by rw [hb.block bi hlt]; exact hit.2
    have hs : (setObj bi (.mapIter (some b) l.length (seen.push m) l.length)).run P w1 = .ok () { w1 with heap := w1.heap.setIfInBounds bi (.mapIter (some b) l.length (seen.push m) l.length) } := by simp [setObj, Sem.run, hit1]
    have S1 := S.grow hb
    have hlt1 : bi < w1.heap.size := heap_lt hit1
    refine ⟨.tuple #[.bool true, eK x.1, eV x.2], _, ⟨?_⟩, .inr ⟨m, x, hmn, hx, rfl, S1.write (w' := { w1 with heap := w1.heap.setIfInBounds bi (.mapIter (some b) l.length (seen.push m) l.length) }) hj ⟨rfl, rfl, rfl, by simp, fun k hk hne => ?_⟩ ⟨hit.1, by simp [hlt1]⟩ (.inl rfl)⟩⟩
    · simp only [execOp, h1]
      refine run_bind (a := Value.tuple #[.bool true, eK x.1, eV x.2]) ?_
      have hne : L.toArray.isEmpty = false := by cases L with | nil => exact absurd rfl hLn | cons _ _ => rfl
      simp only [Instr.next, Sem.run_bind, hgi, hg, Result.andThen_ok, hcond, Bool.false_eq_true, if_false, hleft, hold', hnew', hne]
      have ec : ((#[] : Array (Option MapEntry)) ++ Array.map some (L.toArray ++ #[])) = (L.map some).toArray := by simp
      rw [ec, show (L.map some).toArray.size = L.length by simp, hc]
      simp only [Result.andThen_ok]
      have eq : (L.map some).toArray[q]? = some (some L[q]) := by simp [hq]
      rw [eq]
      show ((do setObj bi (Obj.mapIter (some b) l.length (seen.push L[q].born) l.length); pure (Value.tuple #[Value.bool true, L[q].key, L[q].val])) : Sem Value).run P w1 = _
      rw [he]
      exact (run_bind hs).trans rfl
    · have : bi ≠ k := fun e => hne (by rw [e]; rfl)
      simp [Array.getElem?_setIfInBounds, this]
omit [DecidableEq K] in
end
theorem modify_same {α : Type} (f : α → α) {l : List α} {j : Nat} {a : α} (h : l[j]? = some a) (hf : f a = a) : l.modify j f = l := by
  apply List.ext_getElem?
  intro m
  rw [List.getElem?_modify]
  by_cases e : j = m
  · subst e; simp [h, hf]
  · simp [e]
theorem modify_congr {α : Type} {f g : α → α} {l : List α} {j : Nat} {a : α} (h : l[j]? = some a) (hf : f a = g a) : l.modify j f = l.modify j g := by
  apply List.ext_getElem?
  intro m
  rw [List.getElem?_modify, List.getElem?_modify]
  by_cases e : j = m
  · subst e; simp [h, hf]
  · simp [e]
/-- A key put in, with a first value where it was not there. -/
def mTouch {K V : Type} [DecidableEq K] (k : K) (z : V) (l : List (K × V)) : List (K × V) := match mGet k l with
  | some _ => l
  | none => l ++ [(k, z)]
theorem mGet_append {K V : Type} [DecidableEq K] (k : K) : ∀ (l r : List (K × V)), mGet k (l ++ r) = match mGet k l with
    | some x => some x
    | none => mGet k r
  | [], r => rfl
  | x :: l, r => by
    simp only [List.cons_append, mGet]
    split
    · rfl
    · exact mGet_append k l r
theorem mPut_append {K V : Type} [DecidableEq K] (k : K) (v : V) : ∀ (l r : List (K × V)), mGet k l = none → mPut k v (l ++ r) = l ++ mPut k v r
  | [], r, _ => rfl
  | x :: l, r, h => by
    unfold mGet at h
    split at h
    · cases h
    · rename_i hk
      simp only [List.cons_append, mPut]
      rw [if_neg hk, mPut_append k v l r h]
theorem mFind_pos {K V : Type} [DecidableEq K] (k : K) (eV : V → Value) {l : List (K × V)} {i : Nat} {x : V} (h : mGet k l = some x) : ∃ j, mFind k eV l i = some (j, eV x) := by
  have h2 := mFind_get k eV l i
  rw [h] at h2
  cases hm : mFind k eV l i with
  | none => rw [hm] at h2; cases h2
  | some p => obtain ⟨j, u⟩ := p; rw [hm] at h2; simp at h2; exact ⟨j, by rw [h2]⟩
theorem mGet_none_find {K V : Type} [DecidableEq K] (k : K) (eV : V → Value) {l : List (K × V)} {i : Nat} (h : mGet k l = none) : mFind k eV l i = none := by
  have h2 := mFind_get k eV l i
  rw [h] at h2
  cases hm : mFind k eV l i with
  | none => rfl
  | some p => rw [hm] at h2; cases h2
theorem mFind_last {K V : Type} [DecidableEq K] (k : K) (z : V) (eV : V → Value) : ∀ (l : List (K × V)) (i : Nat), mGet k l = none → mFind k eV (l ++ [(k, z)]) i = some (i + l.length, eV z)
  | [], i, _ => by simp [mFind]
  | x :: l, i, h => by
    unfold mGet at h
    split at h
    · cases h
    · rename_i hk
      show mFind k eV (x :: (l ++ [(k, z)])) i = _
      unfold mFind
      rw [if_neg hk, mFind_last k z eV l (i + 1) h]
      simp; omega
theorem mTouch_put {K V : Type} [DecidableEq K] (k : K) (z v : V) (l : List (K × V)) : mPut k v (mTouch k z l) = mPut k v l := by
  unfold mTouch
  cases h : mGet k l with
  | some x => rfl
  | none =>
    have h1 := mFind_none k v (fun _ : V => Value.nilFunc) l 0 (mGet_none_find k _ h)
    have h2 := mPut_append k v l [(k, z)] h
    rw [h1]
    show mPut k v (l ++ [(k, z)]) = _
    rw [h2]
    simp [mPut]
section
variable {P : Program} {ρ : Operand → Value} {w w0 : World} {d : Option Tmp} {ty : TypeId} {pos : String} {af : Array Edge} {g : Option (Nat × Bool)} {T : TypeId} {s t u : Operand} {os : List Ob} {K V : Type} [DecidableEq K] {eK : K → Value} {eV : V → Value}
theorem r_mapEntry {kT eT : TypeId} {size bytes i b : Nat} {z : Value} {l : List (K × V)} {k : K} (z0 : V) [hM : IsMap P T kT eT] [hK : MKey P kT eK] [hI : TI P eT z size bytes] (S : St w0 w os) (hi : os[i]? = some (mapOb eK eV b l)) (h1 : ρ s = .map (some b)) (h2 : ρ t = eK k) (hz : eV z0 = z) :
    ∃ v' w', Runs P ρ ⟨d, .mapEntry T s t, ty, pos, af, g⟩ w (.ok (.value v') w') ∧ ∃ (j : Nat) (y : Value), v' = .tuple #[y, .int .i64 (j : Int)] ∧ mFind k eV (mTouch k z0 l) 0 = some (j, y) ∧ St w0 w' (os.set i (mapOb eK eV b (mTouch k z0 l))) := by
  have hh := S.ok _ (mem_of_get hi)
  have hg := getObj_run (P := P) hh.2
  have hf := hK.find eV k l w
  have hc := hK.check false k w
  have hlt : b < w.heap.size := heap_lt hh.2
  obtain ⟨ti, hti, hzz, _⟩ := hI.out
  have wr : ∀ l' : List (K × V), St w0 { w with heap := w.heap.setIfInBounds b (.map (mEs eK eV l' 0).toArray l'.length) } (os.set i (mapOb eK eV b l')) := fun l' => by
    refine S.write hi ⟨rfl, rfl, rfl, by simp, fun j hj hne => ?_⟩ ⟨hh.1, by simp [hlt]⟩ (.inl rfl)
    have : b ≠ j := fun e => hne (by rw [e]; rfl)
    simp [Array.getElem?_setIfInBounds, this]
  have key : ∃ w' j y, (Instr.mapEntry T (.map (some b)) (eK k)).run P w = .ok (.tuple #[y, .int .i64 ((j : Nat) : Int)]) w' ∧ mFind k eV (mTouch k z0 l) 0 = some (j, y) ∧ St w0 w' (os.set i (mapOb eK eV b (mTouch k z0 l))) := by
    cases hm : mGet k l with
    | some x =>
      obtain ⟨j, hj⟩ := mFind_pos k eV (i := 0) hm
      have et : mTouch k z0 l = l := by unfold mTouch; rw [hm]
      rw [et]
      refine ⟨_, j, eV x, ?_, hj, wr l⟩
      unfold Instr.mapEntry
      refine (run_bind (run_underlying' hM.out)).trans ?_
      refine (run_bind hg).trans ?_
      refine (run_bind hc).trans ?_
      have hf' : (Instr.findKey kT (eK k) (mEs eK eV l 0).toArray.toList).run P w = .ok (mFind k eV l 0) w := hf
      refine (run_bind hf').trans ?_
      rw [hj]
      obtain ⟨h4, h5, ⟨e, h6, h7⟩, h8, h9⟩ := mFind_some k x eK eV l 0 j (eV x) hj
      rw [Nat.sub_zero] at h6 h8
      obtain ⟨xe, hxe⟩ : ∃ xe, l[j]? = some xe := ⟨_, List.getElem?_eq_getElem (by omega)⟩
      have h6' := h6
      rw [mEs_get, hxe] at h6'
      simp only [Option.map_some, Option.some.injEq] at h6'
      have hb : e.born = j := by rw [← h6']; simp
      have hkey : (((mEs eK eV l 0).toArray[j]?).map (·.key)).getD (eK k) = eK k := by
        rw [List.getElem?_toArray, h6]; exact h7
      have hborn : (((mEs eK eV l 0).toArray[j]?).map (fun x => (x.born : Int))).getD 0 = (j : Int) := by
        rw [List.getElem?_toArray, h6]; show ((e.born : Nat) : Int) = _; rw [hb]
      have hst : (Instr.keyThatStays (eK k) (eK k)).run P w = .ok (eK k) w := by
        unfold Instr.keyThatStays; rw [if_pos (hK.same k)]; rfl
      have e1 : ((mEs eK eV l 0).toArray.modify j fun e => { e with key := eK k }) = (mEs eK eV l 0).toArray := by
        rw [List.modify_toArray, modify_same (fun e => { e with key := eK k }) h6 (by cases e; simp at h7 ⊢; exact h7.symm)]
      show (do let key ← Instr.keyThatStays ((((mEs eK eV l 0).toArray[j]?).map (·.key)).getD (eK k)) (eK k); setObj b (.map ((mEs eK eV l 0).toArray.modify j fun e => { e with key }) l.length); pure (.tuple #[eV x, goInt ((((mEs eK eV l 0).toArray[j]?).map (fun x => (x.born : Int))).getD 0)]) : Sem Value).run P w = _
      rw [hkey, hborn]
      refine (run_bind hst).trans ?_
      rw [e1]
      refine (run_bind (setObj_run _ hh.2)).trans ?_
      rfl
    | none =>
      have et : mTouch k z0 l = l ++ [(k, z0)] := by unfold mTouch; rw [hm]
      refine ⟨_, l.length, z, ?_, ?_, wr _⟩
      · unfold Instr.mapEntry
        refine (run_bind (run_underlying' hM.out)).trans ?_
        refine (run_bind hg).trans ?_
        refine (run_bind hc).trans ?_
        have hf' : (Instr.findKey kT (eK k) (mEs eK eV l 0).toArray.toList).run P w = .ok (mFind k eV l 0) w := hf
        refine (run_bind hf').trans ?_
        rw [mGet_none_find k eV hm]
        have hzr : (zeroValue eT).run P w = .ok z w := run_zeroValue' hti hzz
        refine (run_bind hzr).trans ?_
        have e1 : (mEs eK eV l 0).toArray.push { key := eK k, val := z, born := l.length } = (mEs eK eV (mTouch k z0 l) 0).toArray := by
          rw [et, mEs_append]; simp [mEs, hz]
        have e2 : l.length + 1 = (mTouch k z0 l).length := by rw [et]; simp
        rw [← e1, ← e2]
        refine (run_bind (setObj_run _ hh.2)).trans ?_
        rfl
      · rw [et, mFind_last k z0 eV l 0 hm, hz]; simp
  obtain ⟨w', j, y, hr, hm, S'⟩ := key
  refine ⟨_, w', ⟨?_⟩, j, y, rfl, hm, S'⟩
  simp only [execOp, h1, h2]
  exact run_bind hr
theorem r_entryStore {i b j : Nat} {y : Value} {l : List (K × V)} {k : K} {v : V} (S : St w0 w os) (hi : os[i]? = some (mapOb eK eV b l)) (h1 : ρ s = .map (some b)) (h2 : ρ t = .int .i64 (j : Int)) (h3 : ρ u = eV v) (hf : mFind k eV l 0 = some (j, y)) :
    ∃ w', Runs P ρ ⟨d, .entryStore T s t u, ty, pos, af, g⟩ w (.ok .skip w') ∧ St w0 w' (os.set i (mapOb eK eV b (mPut k v l))) := by
  have hh := S.ok _ (mem_of_get hi)
  have hg := getObj_run (P := P) hh.2
  have hlt : b < w.heap.size := heap_lt hh.2
  have wr : ∀ l' : List (K × V), St w0 { w with heap := w.heap.setIfInBounds b (.map (mEs eK eV l' 0).toArray l'.length) } (os.set i (mapOb eK eV b l')) := fun l' => by
    refine S.write hi ⟨rfl, rfl, rfl, by simp, fun j hj hne => ?_⟩ ⟨hh.1, by simp [hlt]⟩ (.inl rfl)
    have : b ≠ j := fun e => hne (by rw [e]; rfl)
    simp [Array.getElem?_setIfInBounds, this]
  obtain ⟨h4, h5, ⟨e, h6, h7⟩, h8, h9⟩ := mFind_some k v eK eV l 0 j y hf
  rw [Nat.sub_zero] at h6 h8
  have hidx : (mEs eK eV l 0).toArray.findIdx? (fun e => (e.born : Int) == (j : Int)) = some j := by
    rw [List.findIdx?_toArray, List.findIdx?_eq_some_iff_getElem]
    have hl : j < (mEs eK eV l 0).length := by rw [mEs_length]; omega
    have born : ∀ m (h : m < (mEs eK eV l 0).length), ((mEs eK eV l 0)[m]).born = m := fun m h => by
      have e1 := mEs_get eK eV l 0 m
      rw [List.getElem?_eq_getElem h, List.getElem?_eq_getElem (by rw [mEs_length] at h; exact h)] at e1
      simp only [Option.map_some, Option.some.injEq] at e1
      rw [e1]; simp
    refine ⟨hl, ?_, fun m hm => ?_⟩
    · rw [born]; simp
    · rw [born]; simp; omega
  have e1 : ((mEs eK eV l 0).toArray.modify j fun e => { e with val := eV v }) = (mEs eK eV (mPut k v l) 0).toArray := by
    rw [List.modify_toArray, h8, modify_congr (g := fun e => { e with key := eK k, val := eV v }) h6 (by cases e; simp at h7 ⊢; exact h7)]
  refine ⟨_, ⟨?_⟩, wr (mPut k v l)⟩
  simp only [execOp, h1, h2, h3]
  refine run_bind (a := ()) ?_
  unfold Instr.entryStore
  refine (run_bind hg).trans ?_
  have ha : (asInt (.int .i64 (j : Int)) : Sem Int).run P w = .ok (j : Int) w := rfl
  refine (run_bind ha).trans ?_
  rw [hidx, ← e1, h9]
  exact setObj_run _ hh.2
end
section
variable {P : Program} {ρ : Operand → Value} {w w0 : World} {d : Option Tmp} {ty : TypeId} {pos : String} {af : Array Edge} {g : Option (Nat × Bool)} {T : TypeId} {s t u : Operand} {os : List Ob} {K V : Type} [DecidableEq K] {eK : K → Value} {eV : V → Value}
omit [DecidableEq K] in
theorem mEs_find : ∀ (l : List (K × V)) (i m : Nat) {x : K × V}, l[m]? = some x → (mEs eK eV l i).find? (fun e => e.born == i + m) = some { key := eK x.1, val := eV x.2, born := i + m }
  | [], _, _, _, h => by simp at h
  | y :: r, i, 0, x, h => by
    simp at h; subst h
    simp [mEs]
  | y :: r, i, m + 1, x, h => by
    have ih := mEs_find r (i + 1) m (x := x) (by simpa using h)
    rw [show i + 1 + m = i + (m + 1) by omega] at ih
    unfold mEs
    rw [List.find?_cons_of_neg (by simp)]
    exact ih
omit [DecidableEq K] in
/-- The entry to which an iterator has come. -/
theorem r_entryH {j b bi m : Nat} {l : List (K × V)} {seen : Array Nat} {x : K × V} (S : St w0 w os) (hh : MapAt w b eK eV l) (hj : os[j]? = some (iterOb b bi l.length (seen.push m))) (hx : l[m]? = some x) (h1 : ρ s = .pointer (some ⟨bi, 0, none⟩)) :
    Runs P ρ ⟨d, .entry s, ty, pos, af, g⟩ w (.ok (.value (.tuple #[eK x.1, eV x.2])) w) := by
  have hit := S.ok _ (mem_of_get hj)
  have hg := getObj_run (P := P) hh
  have hgi : (getObj bi).run P w = .ok (.mapIter (some b) l.length (seen.push m) l.length) w := by simp [getObj, Sem.run, hit.2]
  have hf := mEs_find (eK := eK) (eV := eV) l 0 m hx
  simp only [Nat.zero_add] at hf
  refine ⟨?_⟩
  simp only [execOp, h1]
  refine run_bind (a := Value.tuple #[eK x.1, eV x.2]) ?_
  unfold Instr.entry
  refine (run_bind hgi).trans ?_
  simp only [Array.back?_push]
  refine (run_bind hg).trans ?_
  simp [hf]
/-- What a map has for a key. -/
theorem r_lookup1D {kT eT : TypeId} {size bytes b : Nat} {z : Value} {l : List (K × V)} {k : K} (v0 : V) [hM : IsMap P T kT eT] [hK : MKey P kT eK] [hI : TI P eT z size bytes] (hz : eV v0 = z) (hh : MapAt w b eK eV l) (h1 : ρ s = .map (some b)) (h2 : ρ t = eK k) :
    Runs P ρ ⟨d, .lookup T s t false, ty, pos, af, g⟩ w (.ok (.value (eV ((mGet k l).getD v0))) w) := by
  have := r_lookup1H (P := P) (d := d) (ty := ty) (pos := pos) (af := af) (g := g) (T := T) hh h1 h2 (hI := hI)
  subst hz
  cases e : mGet k l with
  | none => rw [e] at this; exact this
  | some x => rw [e] at this; exact this
theorem r_lookupN {kT eT : TypeId} {size bytes b : Nat} {z : Value} {l : List (K × V)} {k : K} [hM : IsMap P T kT eT] [hK : MKey P kT eK] [hI : TI P eT z size bytes] (hh : MapAt w b eK eV l) (hn : mGet k l = none) (h1 : ρ s = .map (some b)) (h2 : ρ t = eK k) :
    Runs P ρ ⟨d, .lookup T s t true, ty, pos, af, g⟩ w (.ok (.value (.tuple #[z, .bool false])) w) := by
  have := r_lookupH (P := P) (d := d) (ty := ty) (pos := pos) (af := af) (g := g) (T := T) hh h1 h2 (hI := hI)
  rw [hn] at this; exact this
theorem r_lookupS {kT eT : TypeId} {size bytes b : Nat} {z : Value} {l : List (K × V)} {k : K} {v : V} [hM : IsMap P T kT eT] [hK : MKey P kT eK] [hI : TI P eT z size bytes] (hh : MapAt w b eK eV l) (hn : mGet k l = some v) (h1 : ρ s = .map (some b)) (h2 : ρ t = eK k) :
    Runs P ρ ⟨d, .lookup T s t true, ty, pos, af, g⟩ w (.ok (.value (.tuple #[eV v, .bool true])) w) := by
  have := r_lookupH (P := P) (d := d) (ty := ty) (pos := pos) (af := af) (g := g) (T := T) hh h1 h2 (hI := hI)
  rw [hn] at this; exact this
end
end Go.Gx
/-
  A region that draws its order, the operations taken in an order of one's own: a head (what leaves known memory alone), then what is the same in every world, then a tail, one operation behind the other.
-/
namespace Go.Gx.Pm
open Go Go.RowKit Go.Gx
set_option linter.unusedVariables false
set_option linter.unusedSimpArgs false

section
variable {P : Program} {ops : Array Oper} {Q : Exit → Act → World → Prop} {md : Region.Mode} {tl : Nat → Bool}

/-- The tail has begun. -/
def Began (tl : Nat → Bool) (listed : Array Bool) : Prop := ∃ d, tl d = true ∧ listed.getD d false = true
def GG (tl : Nat → Bool) (listed : Array Bool) (w w1 : World) : Prop := (Began tl listed → w1 = w) ∧ (¬ Began tl listed → Gw w w1)
theorem Began.set {listed : Array Bool} {i : Nat} (hi : tl i = false) : Began tl (listed.setIfInBounds i true) ↔ Began tl listed := by
  constructor
  · rintro ⟨d, hd, h⟩; exact ⟨d, hd, by rwa [getD_set_ne false (show i ≠ d from fun e => by rw [e, hd] at hi; cases hi)] at h⟩
  · rintro ⟨d, hd, h⟩; exact ⟨d, hd, by rwa [getD_set_ne false (show i ≠ d from fun e => by rw [e, hd] at hi; cases hi)]⟩
theorem Began.now {listed : Array Bool} {i : Nat} (hi : tl i = true) (hl : listed.getD i true = false) : Began tl (listed.setIfInBounds i true) := by
  refine ⟨i, hi, ?_⟩
  rcases Nat.lt_or_ge i listed.size with h' | h'
  · simp [h']
  · simp [Array.getElem?_eq_none h'] at hl
theorem GG.set {listed : Array Bool} {i : Nat} {w w1 : World} (hi : tl i = false) (h : GG tl listed w w1) : GG tl (listed.setIfInBounds i true) w w1 := by
  unfold GG; rw [Began.set hi]; exact h

def wpAnyG (P : Program) (md : Region.Mode) (ops : Array Oper) (Q : Exit → Act → World → Prop) (tl : Nat → Bool) : Nat → Array Bool → Act → World → Prop
  | 0, listed, a, w => Region.ready md ops listed = [] ∧ ∀ w1, GG tl listed w w1 → Q .normal a w1
  | fuel + 1, listed, a, w =>
    (Region.ready md ops listed = [] → ∀ w1, GG tl listed w w1 → Q .normal a w1) ∧
    ∀ i ∈ Region.ready md ops listed, ∀ w1, GG tl listed w w1 → sOp P ops Q i (fun a' w' => (tl i = false → ¬ Began tl listed → Gw w1 w') ∧ wpAnyG P md ops Q tl fuel (listed.setIfInBounds i true) a' w') a w1

theorem GG.refl {listed : Array Bool} {w : World} : GG tl listed w w := ⟨fun _ => rfl, fun _ => Gw.refl w⟩
theorem GG.trans {listed : Array Bool} {w w1 w2 : World} (h : GG tl listed w w1) (h2 : GG tl listed w1 w2) : GG tl listed w w2 := ⟨fun hb => (h2.1 hb).trans (h.1 hb), fun hb => (h.2 hb).trans (h2.2 hb)⟩
theorem wpAnyG_mono {fuel : Nat} {listed : Array Bool} {a : Act} {w w1 : World} (h : wpAnyG P md ops Q tl fuel listed a w) (hg : GG tl listed w w1) : wpAnyG P md ops Q tl fuel listed a w1 := by
  cases fuel with
  | zero => exact ⟨h.1, fun w2 h2 => h.2 w2 (hg.trans h2)⟩
  | succ k => exact ⟨fun h0 w2 h2 => h.1 h0 w2 (hg.trans h2), fun i hi w2 h2 => h.2 i hi w2 (hg.trans h2)⟩

theorem wpAny_of_G : ∀ (fuel : Nat) (listed : Array Bool) (a : Act) (w : World), wpAnyG P md ops Q tl fuel listed a w → sAny P md ops Q fuel listed a w
  | 0, _, _, w, h => ⟨h.1, h.2 w GG.refl⟩
  | fuel + 1, listed, _, w, h => ⟨fun h0 => h.1 h0 w GG.refl, fun i hi => sOp_mono (fun a' w' h' => wpAny_of_G fuel _ a' w' h'.2) (h.2 i hi w GG.refl)⟩

/-- What yields in whatever world is taken first. -/
theorem firstP {i : Nat} {oi : Oper} {v : Value} (hi : ops[i]? = some oi) (hsel : ∀ (j : Nat) (o : Oper) cs b, ops[j]? = some o → o.op ≠ .select cs b)
    (hQ : ∀ c a w, Q (.panic c) (a.put oi.dst v) w → Q (.panic c) a w) (hin : tl i = false) :
    ∀ (fuel : Nat) (listed : Array Bool) (a : Act) (w : World),
      (∀ j oj, ops[j]? = some oj → j ≠ i → listed.getD j true = false → (∀ e ∈ oj.after, Region.binds md e = true → e.on ≠ i) → oi.apart ops oj = true) →
      i ∈ Region.ready md ops listed → Yields P ops oi v a →
      wpAnyG P md ops Q tl fuel (listed.setIfInBounds i true) (a.put oi.dst v) w → wpAnyG P md ops Q tl (fuel + 1) listed a w := by
  intro fuel
  induction fuel with
  | zero =>
    intro listed a w _ hr hy H
    refine ⟨fun h => (by rw [h] at hr; cases hr), fun j hj w1 hg => ?_⟩
    by_cases hji : j = i
    · subst hji; exact sOp_inl (hy.wpOp hi ⟨fun _ _ => Gw.refl _, wpAnyG_mono H (hg.set hin)⟩)
    · have := ready_mono hj hji
      rw [H.1] at this
      cases this
  | succ fuel ih =>
    intro listed a w hfree hr hy H
    refine ⟨fun h => (by rw [h] at hr; cases hr), fun j hj w1 hg => ?_⟩
    by_cases hji : j = i
    · subst hji; exact sOp_inl (hy.wpOp hi ⟨fun _ _ => Gw.refl _, wpAnyG_mono H (hg.set hin)⟩)
    · have h1 := H.2 j (ready_mono hj hji) w1 (hg.set hin)
      obtain ⟨hjun, oj, hoj, hall⟩ := mem_ready.1 hj
      have hiun := (mem_ready.1 hr).1
      have hnot : ∀ e ∈ oj.after, Region.binds md e = true → e.on ≠ i := fun e he hb heq => by
        have h1 := hall e he hb
        rw [heq, getD_two hiun] at h1
        cases h1
      have h2 := sOp_put hoj (hfree j oj hoj hji hjun hnot) (fun cs b => hsel i oi cs b hi) (fun cs b => hsel j oj cs b hoj) hQ hy h1
      refine sOp_mono (fun a' w' h3 => ⟨fun hjn hb => h3.2.1 hjn (fun h => hb ((Began.set hin).1 h)), ih (listed.setIfInBounds j true) a' w' (unlisted_hyp hfree hjun) (ready_mono hr (Ne.symm hji)) h3.1 ?_⟩) h2
      rw [Array.setIfInBounds_comm _ _ hji]
      exact h3.2.2

/-- What is quiet, and what the whole tail waits for, is taken first. -/
theorem firstQ {i : Nat} {oi : Oper} {v : Value} (hi : ops[i]? = some oi) (hsel : ∀ (j : Nat) (o : Oper) cs b, ops[j]? = some o → o.op ≠ .select cs b)
    (hQ : ∀ c a w, Q (.panic c) (a.put oi.dst v) w → Q (.panic c) a w) (hin : tl i = false) (hd : ∀ d, tl d = true → d < ops.size → reachG md ops i ops.size d = true) :
    ∀ (fuel : Nat) (listed : Array Bool) (a : Act) (w : World),
      (∀ j oj, ops[j]? = some oj → j ≠ i → listed.getD j true = false → (∀ e ∈ oj.after, Region.binds md e = true → e.on ≠ i) → oi.apart ops oj = true) →
      ClosedG md ops listed → ¬ Began tl listed → i ∈ Region.ready md ops listed → YieldsG P ops w oi v a →
      wpAnyG P md ops Q tl fuel (listed.setIfInBounds i true) (a.put oi.dst v) w → wpAnyG P md ops Q tl (fuel + 1) listed a w := by
  intro fuel
  induction fuel with
  | zero =>
    intro listed a w _ hc hb hr hy H
    refine ⟨fun h => (by rw [h] at hr; cases hr), fun j hj w1 hg => ?_⟩
    by_cases hji : j = i
    · subst hji
      exact YieldsG.sp1 hi hy (hg.2 hb) fun w' hw' => ⟨fun _ _ => hw', wpAnyG_mono H ⟨fun h => absurd ((Began.set hin).1 h) hb, fun _ => (hg.2 hb).trans hw'⟩⟩
    · have := ready_mono hj hji
      rw [H.1] at this
      cases this
  | succ fuel ih =>
    intro listed a w hfree hc hb hr hy H
    refine ⟨fun h => (by rw [h] at hr; cases hr), fun j hj w1 hg => ?_⟩
    by_cases hji : j = i
    · subst hji
      exact YieldsG.sp1 hi hy (hg.2 hb) fun w' hw' => ⟨fun _ _ => hw', wpAnyG_mono H ⟨fun h => absurd ((Began.set hin).1 h) hb, fun _ => (hg.2 hb).trans hw'⟩⟩
    · have h1 := H.2 j (ready_mono hj hji) w1 (hg.set hin)
      obtain ⟨hjun, oj, hoj, hall⟩ := mem_ready.1 hj
      have hiun := (mem_ready.1 hr).1
      have hjn : tl j = false := by
        cases h : tl j
        · rfl
        · exact absurd hj (reachG_not_ready hc (hd j h (Array.getElem?_eq_some_iff.1 hoj).1) hiun)
      have hnot : ∀ e ∈ oj.after, Region.binds md e = true → e.on ≠ i := fun e he hb heq => by
        have h1 := hall e he hb
        rw [heq, getD_two hiun] at h1
        cases h1
      have h2 := sOp_putQ hoj (hfree j oj hoj hji hjun hnot) (fun cs b => hsel i oi cs b hi) (fun cs b => hsel j oj cs b hoj) hQ hy h1
      refine sOp_mono (fun a' w' h3 => ⟨fun hjn hb => h3.2.1 hjn (fun h => hb ((Began.set hin).1 h)), ih (listed.setIfInBounds j true) a' w' (unlisted_hyp hfree hjun) (hc.set hj) (fun h => hb ((Began.set hjn).1 h)) (ready_mono hr (Ne.symm hji)) (h3.1.mono ((hg.2 hb).trans (h3.2.1 hjn (fun h => hb ((Began.set hin).1 h))))) ?_⟩) h2
      rw [Array.setIfInBounds_comm _ _ hji]
      exact h3.2.2


def dflt : Oper := ⟨none, .move (.const undef), 0, "", #[], none⟩
def pk (l : List Oper) : List Nat → List Oper
  | [] => []
  | k :: ks => l.getD k dflt :: pk l ks
theorem pk_get {l : List Oper} {k : Nat} {o : Oper} (h : l.toArray[k]? = some o) : l.getD k dflt = o := by
  have : l[k]? = some o := by simpa using h
  simp [List.getD, this]
def seqLB (md : Region.Mode) (ops : Array Oper) : List Nat → Array Bool → Bool
  | [], listed => (Region.ready md ops listed).isEmpty
  | k :: ks, listed => decide (Region.ready md ops listed = [k]) && seqLB md ops ks (listed.setIfInBounds k true)
def pureLB (md : Region.Mode) (ops : Array Oper) (ts : List Nat) : List Nat → Array Bool → Bool
  | [], listed => seqLB md ops ts listed
  | k :: ks, listed => (Region.ready md ops listed).contains k && Region.free md ops listed k && !(ts.contains k) && pureLB md ops ts ks (listed.setIfInBounds k true)
def headLB (md : Region.Mode) (ops : Array Oper) (ps ts : List Nat) : List Nat → Array Bool → Bool
  | [], listed => pureLB md ops ts ps listed
  | k :: ks, listed => (Region.ready md ops listed).contains k && Region.free md ops listed k && !(ts.contains k) && ((ops[k]?).any isPure || ts.all fun d => reachG md ops k ops.size d) && headLB md ops ps ts ks (listed.setIfInBounds k true)
def permB (md : Region.Mode) (ops : Array Oper) (hs ps ts : List Nat) : Bool := Region.noSelect ops && headLB md ops ps ts hs (Array.replicate ops.size false)

theorem seqL {l : List Oper} : ∀ (ks : List Nat) (listed : Array Bool) (a : Act) (w : World), (∀ k ∈ ks, tl k = true) →
    seqLB md l.toArray ks listed = true → (∀ w1, GG tl listed w w1 → sList P l.toArray Q (pk l ks) a w1) → wpAnyG P md l.toArray Q tl ks.length listed a w
  | [], _, _, _, _, hB, h => ⟨by simpa [seqLB] using hB, h⟩
  | k :: ks, listed, a, w, hk, hB, h => by
    simp only [seqLB, Bool.and_eq_true, decide_eq_true_eq] at hB
    refine ⟨fun h1 => (by rw [hB.1] at h1; cases h1), fun i hi w1 hg => ?_⟩
    obtain ⟨hun, o, h0, _⟩ := mem_ready.1 hi
    rw [hB.1] at hi
    have hik : i = k := by simpa using hi
    subst hik
    have hl := h w1 hg
    rw [pk, pk_get h0] at hl
    have ht : tl i = true := hk i (List.mem_cons_self ..)
    have hw : sOp P l.toArray Q i (sList P l.toArray Q (pk l ks)) a w1 := by unfold sOp; simp only [h0]; exact hl
    exact sOp_mono (fun a' w' h' => ⟨fun hlt => (by rw [ht] at hlt; cases hlt), seqL ks _ a' w' (fun k hk' => hk k (List.mem_cons_of_mem _ hk')) hB.2 (fun w2 hg2 => by rw [hg2.1 (Began.now ht hun)]; exact h')⟩) hw

/-- What is the same in every world. -/
def wpPure (P : Program) (ops : Array Oper) (K : Act → Prop) : List Oper → Act → Prop
  | [], a => K a
  | o :: rest, a => if Region.wanted o (yielded ops a.tmps) = true then ∃ v, (∀ w, (execOp a.eval o).run P w = .ok (.value v) w) ∧ wpPure P ops K rest (a.put o.dst v) else wpPure P ops K rest (a.put o.dst undef)

theorem pureL {l : List Oper} {ts : List Nat} (htl : ∀ d, tl d = ts.contains d) (hsel : Region.noSelect l.toArray = true) (hQ : ∀ c a w, ¬ Q (.panic c) a w) :
    ∀ (ks : List Nat) (listed : Array Bool) (a : Act) (w : World), pureLB md l.toArray ts ks listed = true →
    wpPure P l.toArray (fun a' => ∀ w1, Gw w w1 → sList P l.toArray Q (pk l ts) a' w1) (pk l ks) a → ¬ Began tl listed → wpAnyG P md l.toArray Q tl (ks.length + ts.length) listed a w
  | [], listed, a, w, hB, h, hb => by
    simp only [List.length_nil, Nat.zero_add]
    exact seqL ts listed a w (fun k hk => by rw [htl]; simpa using hk) (by simpa [pureLB] using hB) fun w1 hg => h w1 (hg.2 hb)
  | k :: ks, listed, a, w, hB, h, hb => by
    simp only [pureLB, Bool.and_eq_true] at hB
    obtain ⟨⟨⟨hr, hf⟩, hnt⟩, hB'⟩ := hB
    have hr' : k ∈ Region.ready md l.toArray listed := by simpa using hr
    obtain ⟨_, o, h0, _⟩ := mem_ready.1 hr'
    rw [pk, pk_get h0] at h
    have ht : tl k = false := by rw [htl]; simpa using hnt
    have hy : ∃ v, Yields P l.toArray o v a ∧ wpPure P l.toArray (fun a' => ∀ w1, Gw w w1 → sList P l.toArray Q (pk l ts) a' w1) (pk l ks) (a.put o.dst v) := by
      unfold wpPure at h
      by_cases hw : Region.wanted o (yielded l.toArray a.tmps) = true
      · rw [if_pos hw] at h
        obtain ⟨v, h1, h2⟩ := h
        exact ⟨v, .inl ⟨hw, h1⟩, h2⟩
      · rw [if_neg hw] at h
        exact ⟨undef, .inr ⟨by simpa using hw, rfl⟩, h⟩
    obtain ⟨v, hy, hK⟩ := hy
    have hrec := pureL htl hsel hQ ks _ (a.put o.dst v) w hB' hK (fun h => hb ((Began.set ht).1 h))
    have e : (k :: ks).length + ts.length = ks.length + ts.length + 1 := by simp; omega
    rw [e]
    exact firstP h0 (Region.noSelect_spec hsel) (fun c a w h => absurd h (hQ _ _ _)) ht _ listed a w (Region.free_spec h0 hf) hr' hy hrec

theorem headL {l : List Oper} {ps ts : List Nat} (htl : ∀ d, tl d = ts.contains d) (hsel : Region.noSelect l.toArray = true) (hQ : ∀ c a w, ¬ Q (.panic c) a w) :
    ∀ (ks : List Nat) (listed : Array Bool) (a : Act) (w : World), headLB md l.toArray ps ts ks listed = true →
    wpQ P l.toArray w (fun a' => ∀ w1, Gw w w1 → wpPure P l.toArray (fun a' => ∀ w2, Gw w1 w2 → sList P l.toArray Q (pk l ts) a' w2) (pk l ps) a') (pk l ks) a → ClosedG md l.toArray listed → ¬ Began tl listed →
    wpAnyG P md l.toArray Q tl (ks.length + (ps.length + ts.length)) listed a w
  | [], listed, a, w, hB, h, hc, hb => by
    have := pureL (P := P) (Q := Q) (md := md) htl hsel hQ ps listed a w (by simpa [headLB] using hB) (h w (Gw.refl w)) hb
    simpa using this
  | k :: ks, listed, a, w, hB, h, hc, hb => by
    simp only [headLB, Bool.and_eq_true] at hB
    obtain ⟨⟨⟨⟨hr, hf⟩, hnt⟩, hpd⟩, hB'⟩ := hB
    have hr' : k ∈ Region.ready md l.toArray listed := by simpa using hr
    obtain ⟨_, o, h0, _⟩ := mem_ready.1 hr'
    rw [pk, pk_get h0] at h
    have ht : tl k = false := by rw [htl]; simpa using hnt
    obtain ⟨v, hy, hK⟩ := yieldsG_of (i := k) h
    have hrec := headL htl hsel hQ ks _ (a.put o.dst v) w hB' hK (hc.set hr') (fun h => hb ((Began.set ht).1 h))
    have e : (k :: ks).length + (ps.length + ts.length) = ks.length + (ps.length + ts.length) + 1 := by simp; omega
    rw [e]
    by_cases hp : isPure o = true
    · exact firstP h0 (Region.noSelect_spec hsel) (fun c a w h => absurd h (hQ _ _ _)) ht _ listed a w (Region.free_spec h0 hf) hr' (pure_yields hp hy) hrec
    · have hd : ∀ d, tl d = true → d < l.toArray.size → reachG md l.toArray k l.toArray.size d = true := fun d h1 h2 => by
        rw [h0] at hpd
        simp only [Option.any_some, hp, Bool.false_or] at hpd
        rw [htl] at h1
        exact List.all_eq_true.1 hpd d (by simpa using h1)
      exact firstQ h0 (Region.noSelect_spec hsel) (fun c a w h => absurd h (hQ _ _ _)) ht hd _ listed a w (Region.free_spec h0 hf) hc hb hr' hy hrec

theorem region_perm {id : Nat} {a : Act} {w : World} {l : List Oper} (hs ps ts : List Nat) (hm : P.follows .mixedOrders = true) (hz : Nat.beq (hs.length + (ps.length + ts.length)) l.length = true) (hB : permB .any l.toArray hs ps ts = true)
    (h : ∀ w0, Gw w w0 → wpQ P l.toArray w0 (fun a' => ∀ w1, Gw w0 w1 → wpPure P l.toArray (fun a' => ∀ w2, Gw w1 w2 → sList P l.toArray (NoPanic Q) (pk l ts) a' w2) (pk l ps) a') (pk l hs) a) : sw P (.region id l.toArray true) Q a w := by
  simp only [permB, Bool.and_eq_true] at hB
  obtain ⟨hsel, hB⟩ := hB
  have key := fun w0 (hw0 : Gw w w0) => headL (P := P) (Q := NoPanic Q) (md := .any) (tl := fun d => ts.contains d) (fun d => rfl) hsel (fun c a w h => by simp [NoPanic] at h) hs (Array.replicate l.toArray.size false) a w0 hB (h w0 hw0)
    (fun j oj _ hl => by rw [getD_replicate_false] at hl; cases hl) (fun ⟨d, _, hd⟩ => by rw [getD_replicate_false] at hd; cases hd)
  have e : hs.length + (ps.length + ts.length) = l.toArray.size := by simpa using Nat.eq_of_beq_eq_true hz
  refine sw_mono NoPanic.imp (sw_any hm (wpAny_of_G (tl := fun d => ts.contains d) _ _ _ _ ?_))
  have k2 := key _ (drew_grown w)
  rw [e] at k2
  exact k2
end

/-- What is the same in every world, walked. -/
structure qp (P : Program) (n : Nat) (ops : Array Oper) (K : (Nat → Value) → Prop) (l : List Oper) (σ : Nat → Value) : Prop where mk :: (out : wpPure P ops (fun a => ∃ σ', a = Fr n σ' ∧ K σ') l (Fr n σ))
section
variable {P : Program} {n : Nat} {ops : Array Oper} {K : (Nat → Value) → Prop} {rest : List Oper} {σ : Nat → Value} {o : Oper} {v : Value}
theorem qp_nil (h : K σ) : qp P n ops K [] σ := ⟨⟨σ, rfl, h⟩⟩
theorem qp_val (hw : wantS o ops n σ = true) (hrun : ∀ w, Runs P (opv (cut n σ)) o w (.ok (.value v) w)) (k : qp P n ops K rest (updO σ o.dst v)) : qp P n ops K (o :: rest) σ := by
  refine ⟨?_⟩
  unfold wpPure
  rw [if_pos (by rw [yielded_eq]; exact hw)]
  exact ⟨v, fun w => by rw [Fr_eval]; exact (hrun w).out, by rw [Fr_put]; exact k.out⟩
end
theorem WP_drawPerm {P : Program} {n : Nat} {Q : Post} {σ : Nat → Value} {w : World} {id : Nat} {l : List Oper} (hs ps ts : List Nat) (hm : P.follows .mixedOrders = true) (hz : Nat.beq (hs.length + (ps.length + ts.length)) l.length = true) (hB : permB .any l.toArray hs ps ts = true)
    (h : ∀ w0, Below w.heap.size w w0 → ql P n l.toArray w0 (fun σ' => ∀ w1, Below w0.heap.size w0 w1 → qp P n l.toArray (fun σ'' => ∀ w2, Below w1.heap.size w1 w2 → wl P n l.toArray (calm Q) (pk l ts) σ'' w2) (pk l ps) σ') (pk l hs) σ) : WP P n (.region id l.toArray true) Q σ w := by
  refine ⟨region_perm hs ps ts hm hz hB ?_⟩
  have hq : lift n (calm Q) = NoPanic (lift n Q) := by
    funext e a w
    cases e <;> simp [lift, calm, NoPanic]
  have monoP : ∀ (w1 : World) (l' : List Oper) (a : Act), wpPure P l.toArray (fun a => ∃ σ', a = Fr n σ' ∧ ∀ w2, Below w1.heap.size w1 w2 → wl P n l.toArray (calm Q) (pk l ts) σ' w2) l' a →
      wpPure P l.toArray (fun a' => ∀ w2, Gw w1 w2 → sList P l.toArray (NoPanic (lift n Q)) (pk l ts) a' w2) l' a := by
    intro w1 l'
    induction l' with
    | nil => rintro a ⟨σ', rfl, hh⟩ w2 hw2; rw [← hq]; exact (hh w2 hw2).out
    | cons o r ih =>
      intro a ha
      unfold wpPure at ha ⊢
      split
      · rename_i hw; rw [if_pos hw] at ha; obtain ⟨v, h1, h2⟩ := ha; exact ⟨v, h1, ih _ h2⟩
      · rename_i hw; rw [if_neg hw] at ha; exact ih _ ha
  have mono : ∀ (w0 : World) (l' : List Oper) (a : Act), wpQ P l.toArray w0 (fun a => ∃ σ', a = Fr n σ' ∧ ∀ w1, Below w0.heap.size w0 w1 → qp P n l.toArray (fun σ'' => ∀ w2, Below w1.heap.size w1 w2 → wl P n l.toArray (calm Q) (pk l ts) σ'' w2) (pk l ps) σ') l' a →
      wpQ P l.toArray w0 (fun a' => ∀ w1, Gw w0 w1 → wpPure P l.toArray (fun a' => ∀ w2, Gw w1 w2 → sList P l.toArray (NoPanic (lift n Q)) (pk l ts) a' w2) (pk l ps) a') l' a := by
    intro w0 l'
    induction l' with
    | nil => rintro a ⟨σ', rfl, hh⟩ w1 hw1; exact monoP w1 _ _ (hh w1 hw1).out
    | cons o r ih =>
      intro a ha
      unfold wpQ at ha ⊢
      split
      · rename_i hw; rw [if_pos hw] at ha; obtain ⟨v, h1, h2⟩ := ha; exact ⟨v, h1, ih _ h2⟩
      · rename_i hw; rw [if_neg hw] at ha; exact ih _ ha
  exact fun w0 hw0 => mono w0 _ _ (h w0 hw0).out
end Go.Gx.Pm
/-
  A region that draws its order, with operations that read known objects beside others that write elsewhere: what is known of the objects read is carried past each of the others.
-/
namespace Go.Gx
open Go Go.RowKit Go.Gx
set_option linter.unusedVariables false
set_option linter.unusedSimpArgs false

section
variable {P : Program} {ops : Array Oper} {Q : Exit → Act → World → Prop} {md : Region.Mode} {J : World → Prop} {nj : Nat → Bool}

def sAnyJ (P : Program) (md : Region.Mode) (ops : Array Oper) (Q : Exit → Act → World → Prop) (J : World → Prop) (nj : Nat → Bool) : Nat → Array Bool → Act → World → Prop
  | 0, listed, a, w => Region.ready md ops listed = [] ∧ Q .normal a w
  | fuel + 1, listed, a, w =>
    (Region.ready md ops listed = [] → Q .normal a w) ∧
    ∀ i ∈ Region.ready md ops listed, sOp P ops Q i (fun a' w' => (nj i = true → J w') ∧ sAnyJ P md ops Q J nj fuel (listed.setIfInBounds i true) a' w') a w
theorem sAny_of_J : ∀ (fuel : Nat) (listed : Array Bool) (a : Act) (w : World), sAnyJ P md ops Q J nj fuel listed a w → sAny P md ops Q fuel listed a w
  | 0, _, _, _, h => h
  | fuel + 1, _, _, _, h => ⟨h.1, fun i hi => sOp_mono (fun a' w' h' => sAny_of_J fuel _ a' w' h'.2) (h.2 i hi)⟩
/-- In every world of the class the operation leaves v, and the world as it is. -/
def YieldsJ (P : Program) (ops : Array Oper) (J : World → Prop) (o : Oper) (v : Value) (a : Act) : Prop :=
  (Region.wanted o (yielded ops a.tmps) = true ∧ ∀ w, J w → (execOp a.eval o).run P w = .ok (.value v) w) ∨ (Region.wanted o (yielded ops a.tmps) = false ∧ v = undef)
theorem YieldsJ.of_same {o : Oper} {v : Value} {a a' : Act} (hy : YieldsJ P ops J o v a) (he : execOp a'.eval o = execOp a.eval o)
    (hw : Region.wanted o (yielded ops a'.tmps) = Region.wanted o (yielded ops a.tmps)) : YieldsJ P ops J o v a' := by
  unfold YieldsJ at *
  rw [he, hw]
  exact hy
theorem YieldsJ.sOp {i : Nat} {o : Oper} {v : Value} {a : Act} {w : World} (hi : ops[i]? = some o) (hy : YieldsJ P ops J o v a) {K : Act → World → Prop} (hJ : J w) (h : K (a.put o.dst v) w) : Gx.sOp P ops Q i K a w := by
  unfold Gx.sOp Oper.sp
  simp only [hi]
  rcases hy with ⟨hw, hv⟩ | ⟨hw, rfl⟩
  · simp only [hw, if_true, Oper.wp, hv w hJ, Oper.upon]; exact .inl (.inl h)
  · simp only [hw, Bool.false_eq_true, if_false]; exact h
theorem sOp_putJ {j : Nat} {oi oj : Oper} {v : Value} (hj : ops[j]? = some oj) (hap : oi.apart ops oj = true)
    (hsi : ∀ cs b, oi.op ≠ .select cs b) (hsj : ∀ cs b, oj.op ≠ .select cs b)
    (hQ : ∀ c a w, Q (.panic c) (a.put oi.dst v) w → Q (.panic c) a w) {K : Act → World → Prop} {a : Act} {w : World}
    (hy : YieldsJ P ops J oi v a) (h : sOp P ops Q j K (a.put oi.dst v) w) :
    sOp P ops Q j (fun a' w' => YieldsJ P ops J oi v a' ∧ K (a'.put oi.dst v) w') a w := by
  obtain ⟨h1, h2, h3⟩ := Oper.apart_spec hap
  have keep : ∀ (a : Act), YieldsJ P ops J oi v a → ∀ u, YieldsJ P ops J oi v (a.put oj.dst u) := fun a hy u =>
    hy.of_same (execOp_put oi hsi a oj.dst u h3) (wanted_put oi a oj.dst u h3)
  have keepD : ∀ d, YieldsJ P ops J oi v { a with defers := d :: a.defers } := fun d => hy.of_same rfl rfl
  unfold sOp at *
  simp only [hj] at *
  rw [wanted_put oj a oi.dst v h1] at h
  split
  · rename_i hw
    simp only [hw, if_true] at h
    unfold Oper.sp at *
    rcases h with (h | ⟨hasks, hlets⟩) | h
    case inl.inr => exact .inl (.inr ⟨by unfold Oper.asks at *; rw [execOp_put oj hsj a oi.dst v h1] at hasks; exact hasks, hlets⟩)
    case inr =>
      obtain ⟨l, f, tmps, as, b, w', e1, e2⟩ := h
      rw [execOp_put oj hsj a oi.dst v h1] at e1
      exact .inr ⟨l, f, tmps, as, b, w', e1, e2.mono fun e w'' ⟨u, he, hk⟩ => ⟨u, he, keep a hy u, by rw [← Act.put_comm a v u h2]; exact hk⟩⟩
    refine .inl (.inl ?_)
    unfold Oper.wp at *
    rw [execOp_put oj hsj a oi.dst v h1] at h
    generalize (execOp a.eval oj).run P w = r at *
    cases r with
    | ok n w' =>
      cases n <;> simp only [Oper.upon] at h ⊢
      case value u => exact ⟨keep a hy u, by rw [← Act.put_comm a v u h2]; exact h⟩
      case skip => exact ⟨keep a hy _, by rw [← Act.put_comm a v undef h2]; exact h⟩
      case defer d =>
        refine ⟨keep _ (keepD d) _, ?_⟩
        rw [← Act.put_comm _ v undef h2, ← Act.put_defers]
        exact h
      case enter f args =>
        refine Calls.mono h fun e w'' he => ?_
        cases e with
        | returned u => exact ⟨keep a hy u, by rw [← Act.put_comm a v u h2]; exact he⟩
        | panicked c => exact hQ _ _ _ he
        | outgrown => exact he
      case row row args => exact Rows.mono h fun u w'' he => ⟨keep a hy u, by rw [← Act.put_comm a v u h2]; exact he⟩
    | halt x w' =>
      cases x <;> simp only [Oper.upon] at h ⊢
      case panic u => exact hQ _ _ _ h
  · rename_i hw
    simp only [hw] at h
    exact ⟨keep a hy _, by rw [← Act.put_comm a v undef h2]; exact h⟩


theorem firstJ {i : Nat} {oi : Oper} {v : Value} (hi : ops[i]? = some oi) (hsel : ∀ (j : Nat) (o : Oper) cs b, ops[j]? = some o → o.op ≠ .select cs b)
    (hQ : ∀ c a w, Q (.panic c) (a.put oi.dst v) w → Q (.panic c) a w) (hd : ∀ d, nj d = false → d < ops.size → reachG md ops i ops.size d = true) :
    ∀ (fuel : Nat) (listed : Array Bool) (a : Act) (w : World),
      (∀ j oj, ops[j]? = some oj → j ≠ i → listed.getD j true = false → (∀ e ∈ oj.after, Region.binds md e = true → e.on ≠ i) → oi.apart ops oj = true) →
      ClosedG md ops listed → i ∈ Region.ready md ops listed → YieldsJ P ops J oi v a → J w →
      sAnyJ P md ops Q J nj fuel (listed.setIfInBounds i true) (a.put oi.dst v) w → sAnyJ P md ops Q J nj (fuel + 1) listed a w := by
  intro fuel
  induction fuel with
  | zero =>
    intro listed a w _ _ hr hy hJ H
    refine ⟨fun h => (by rw [h] at hr; cases hr), fun j hj => ?_⟩
    by_cases hji : j = i
    · subst hji; exact hy.sOp hi hJ ⟨fun _ => hJ, H⟩
    · have := ready_mono hj hji
      rw [H.1] at this
      cases this
  | succ fuel ih =>
    intro listed a w hfree hc hr hy hJ H
    refine ⟨fun h => (by rw [h] at hr; cases hr), fun j hj => ?_⟩
    by_cases hji : j = i
    · subst hji; exact hy.sOp hi hJ ⟨fun _ => hJ, H⟩
    · have h1 := H.2 j (ready_mono hj hji)
      obtain ⟨hjun, oj, hoj, hall⟩ := mem_ready.1 hj
      have hiun := (mem_ready.1 hr).1
      have hjn : nj j = true := by
        cases h : nj j
        · exact absurd hj (reachG_not_ready hc (hd j h (Array.getElem?_eq_some_iff.1 hoj).1) hiun)
        · rfl
      have hnot : ∀ e ∈ oj.after, Region.binds md e = true → e.on ≠ i := fun e he hb heq => by
        have h1 := hall e he hb
        rw [heq, getD_two hiun] at h1
        cases h1
      have h2 := sOp_putJ hoj (hfree j oj hoj hji hjun hnot) (fun cs b => hsel i oi cs b hi) (fun cs b => hsel j oj cs b hoj) hQ hy h1
      refine sOp_mono (fun a' w' h3 => ⟨h3.2.1, ih (listed.setIfInBounds j true) a' w' (unlisted_hyp hfree hjun) (hc.set hj) (ready_mono hr (Ne.symm hji)) h3.1 (h3.2.1 hjn) ?_⟩) h2
      rw [Array.setIfInBounds_comm _ _ hji]
      exact h3.2.2

def sListJ (P : Program) (ops : Array Oper) (Q : Exit → Act → World → Prop) (J : World → Prop) (T : List Oper) : List Oper → Act → World → Prop
  | [], a, w => sList P ops Q T a w
  | o :: rest, a, w => if Region.wanted o (yielded ops a.tmps) = true then Oper.sp P o a w (fun a' w' => J w' ∧ sListJ P ops Q J T rest a' w') Q else J w ∧ sListJ P ops Q J T rest (a.put o.dst undef) w
def headJB (md : Region.Mode) (ops : Array Oper) (ts us : List Nat) : List Nat → Array Bool → Bool
  | [], listed => Pm.seqLB md ops (ts ++ us) listed
  | k :: ks, listed => (Region.ready md ops listed).contains k && Region.free md ops listed k && (us.all fun d => reachG md ops k ops.size d) && headJB md ops ts us ks (listed.setIfInBounds k true)
def permJB (md : Region.Mode) (ops : Array Oper) (hs ts us : List Nat) : Bool := Region.noSelect ops && headJB md ops ts us hs (Array.replicate ops.size false)
def wpJ (P : Program) (ops : Array Oper) (J : World → Prop) (K : Act → Prop) : List Oper → Act → Prop
  | [], a => K a
  | o :: rest, a => if Region.wanted o (yielded ops a.tmps) = true then ∃ v, (∀ w, J w → (execOp a.eval o).run P w = .ok (.value v) w) ∧ wpJ P ops J K rest (a.put o.dst v) else wpJ P ops J K rest (a.put o.dst undef)

theorem seqT {l : List Oper} : ∀ (ks : List Nat) (listed : Array Bool) (a : Act) (w : World), (∀ k ∈ ks, nj k = false) →
    Pm.seqLB md l.toArray ks listed = true → sList P l.toArray Q (Pm.pk l ks) a w → sAnyJ P md l.toArray Q J nj ks.length listed a w
  | [], _, _, _, _, hB, h => ⟨by simpa [Pm.seqLB] using hB, h⟩
  | k :: ks, listed, a, w, hn, hB, h => by
    simp only [Pm.seqLB, Bool.and_eq_true, decide_eq_true_eq] at hB
    refine ⟨fun h1 => (by rw [hB.1] at h1; cases h1), fun i hi => ?_⟩
    obtain ⟨hun, o, h0, _⟩ := mem_ready.1 hi
    rw [hB.1] at hi
    have hik : i = k := by simpa using hi
    subst hik
    rw [Pm.pk, Pm.pk_get h0] at h
    have hw : sOp P l.toArray Q i (sList P l.toArray Q (Pm.pk l ks)) a w := by unfold sOp; simp only [h0]; exact h
    exact sOp_mono (fun a' w' h' => ⟨(fun e => by rw [hn i (List.mem_cons_self ..)] at e; cases e), seqT ks _ a' w' (fun k hk => hn k (List.mem_cons_of_mem _ hk)) hB.2 h'⟩) hw
theorem seqJ {l : List Oper} {us : List Nat} (hn : ∀ k ∈ us, nj k = false) : ∀ (ks : List Nat) (listed : Array Bool) (a : Act) (w : World),
    Pm.seqLB md l.toArray (ks ++ us) listed = true → sListJ P l.toArray Q J (Pm.pk l us) (Pm.pk l ks) a w → sAnyJ P md l.toArray Q J nj (ks.length + us.length) listed a w
  | [], listed, a, w, hB, h => by
    simp only [List.length_nil, Nat.zero_add]
    exact seqT us listed a w hn hB h
  | k :: ks, listed, a, w, hB, h => by
    simp only [List.cons_append, Pm.seqLB, Bool.and_eq_true, decide_eq_true_eq] at hB
    have e : (k :: ks).length + us.length = ks.length + us.length + 1 := by simp; omega
    rw [e]
    refine ⟨fun h1 => (by rw [hB.1] at h1; cases h1), fun i hi => ?_⟩
    obtain ⟨hun, o, h0, _⟩ := mem_ready.1 hi
    rw [hB.1] at hi
    have hik : i = k := by simpa using hi
    subst hik
    rw [Pm.pk, Pm.pk_get h0] at h
    have hw : sOp P l.toArray Q i (fun a' w' => J w' ∧ sListJ P l.toArray Q J (Pm.pk l us) (Pm.pk l ks) a' w') a w := by unfold sOp; simp only [h0]; exact h
    exact sOp_mono (fun a' w' h' => ⟨fun _ => h'.1, seqJ hn ks _ a' w' hB.2 h'.2⟩) hw
theorem headJ {l : List Oper} {ts us : List Nat} (hsel : Region.noSelect l.toArray = true) (hQ : ∀ c a w, ¬ Q (.panic c) a w) :
    ∀ (ks : List Nat) (listed : Array Bool) (a : Act) (w : World), headJB md l.toArray ts us ks listed = true → ClosedG md l.toArray listed → J w →
    wpJ P l.toArray J (fun a' => sListJ P l.toArray Q J (Pm.pk l us) (Pm.pk l ts) a' w) (Pm.pk l ks) a → sAnyJ P md l.toArray Q J (fun d => !us.contains d) (ks.length + (ts.length + us.length)) listed a w
  | [], listed, a, w, hB, hc, hJ, h => by
    simp only [List.length_nil, Nat.zero_add]
    exact seqJ (fun k hk => by simpa using hk) ts listed a w (by simpa [headJB] using hB) h
  | k :: ks, listed, a, w, hB, hc, hJ, h => by
    simp only [headJB, Bool.and_eq_true] at hB
    obtain ⟨⟨⟨hr, hf⟩, hd⟩, hB'⟩ := hB
    have hr' : k ∈ Region.ready md l.toArray listed := by simpa using hr
    obtain ⟨_, o, h0, _⟩ := mem_ready.1 hr'
    rw [Pm.pk, Pm.pk_get h0] at h
    have hy : ∃ v, YieldsJ P l.toArray J o v a ∧ wpJ P l.toArray J (fun a' => sListJ P l.toArray Q J (Pm.pk l us) (Pm.pk l ts) a' w) (Pm.pk l ks) (a.put o.dst v) := by
      unfold wpJ at h
      by_cases hw : Region.wanted o (yielded l.toArray a.tmps) = true
      · rw [if_pos hw] at h
        obtain ⟨v, h1, h2⟩ := h
        exact ⟨v, .inl ⟨hw, h1⟩, h2⟩
      · rw [if_neg hw] at h
        exact ⟨undef, .inr ⟨by simpa using hw, rfl⟩, h⟩
    obtain ⟨v, hy, hK⟩ := hy
    have hrec := headJ hsel hQ ks _ (a.put o.dst v) w hB' (hc.set hr') hJ hK
    have e : (k :: ks).length + (ts.length + us.length) = ks.length + (ts.length + us.length) + 1 := by simp; omega
    rw [e]
    exact firstJ h0 (Region.noSelect_spec hsel) (fun c a w h => absurd h (hQ _ _ _)) (fun d hdu hds => List.all_eq_true.1 hd d (by simpa using hdu)) _ listed a w (Region.free_spec h0 hf) hc hr' hy hJ hrec
end

/-- What is the same in every world of the class, walked. -/
structure jq (P : Program) (n : Nat) (ops : Array Oper) (J : World → Prop) (K : (Nat → Value) → Prop) (l : List Oper) (σ : Nat → Value) : Prop where mk :: (out : wpJ P ops J (fun a => ∃ σ', a = Fr n σ' ∧ K σ') l (Fr n σ))
/-- The rest, one behind the other. -/
structure wj (P : Program) (n : Nat) (ops : Array Oper) (Q : Post) (J : World → Prop) (TL l : List Oper) (σ : Nat → Value) (w : World) : Prop where mk :: (out : sListJ P ops (lift n Q) J TL l (Fr n σ) w)
section
variable {P : Program} {n : Nat} {ops : Array Oper} {Q : Post} {J : World → Prop} {K : (Nat → Value) → Prop} {TL rest : List Oper} {σ : Nat → Value} {w w' : World} {o : Oper} {v : Value}
theorem jq_nil (h : K σ) : jq P n ops J K [] σ := ⟨⟨σ, rfl, h⟩⟩
theorem jq_val (hw : wantS o ops n σ = true) (hrun : ∀ w, J w → Runs P (opv (cut n σ)) o w (.ok (.value v) w)) (k : jq P n ops J K rest (updO σ o.dst v)) : jq P n ops J K (o :: rest) σ := by
  refine ⟨?_⟩
  unfold wpJ
  rw [if_pos (by rw [yielded_eq]; exact hw)]
  exact ⟨v, fun w hJ => by rw [Fr_eval]; exact (hrun w hJ).out, by rw [Fr_put]; exact k.out⟩
theorem wj_nil (h : wl P n ops Q TL σ w) : wj P n ops Q J TL [] σ w := ⟨h.out⟩
theorem wj_valE {R : Value → World → Prop} (hw : wantS o ops n σ = true) (h : ∃ v w', Runs P (opv (cut n σ)) o w (.ok (.value v) w') ∧ R v w') (k : ∀ v w', R v w' → J w' ∧ wj P n ops Q J TL rest (updO σ o.dst v) w') : wj P n ops Q J TL (o :: rest) σ w := by
  obtain ⟨v, w', hrun, hr⟩ := h
  refine ⟨?_⟩
  unfold sListJ
  rw [if_pos (by rw [yielded_eq]; exact hw)]
  left
  left
  unfold Oper.wp
  rw [Fr_eval, hrun.out, Oper.upon_value, Fr_put]
  exact ⟨(k v w' hr).1, (k v w' hr).2.out⟩
theorem wj_val (hw : wantS o ops n σ = true) (hrun : Runs P (opv (cut n σ)) o w (.ok (.value v) w)) (hJ : J w) (k : wj P n ops Q J TL rest (updO σ o.dst v) w) : wj P n ops Q J TL (o :: rest) σ w :=
  wj_valE (R := fun u w' => u = v ∧ w' = w) hw ⟨v, w, hrun, rfl, rfl⟩ (by rintro _ _ ⟨rfl, rfl⟩; exact ⟨hJ, k⟩)
theorem wj_skipE {R : World → Prop} (hw : wantS o ops n σ = true) (h : ∃ w', Runs P (opv (cut n σ)) o w (.ok .skip w') ∧ R w') (k : ∀ w', R w' → J w' ∧ wj P n ops Q J TL rest (updO σ o.dst undef) w') : wj P n ops Q J TL (o :: rest) σ w := by
  obtain ⟨w', hrun, hr⟩ := h
  refine ⟨?_⟩
  unfold sListJ
  rw [if_pos (by rw [yielded_eq]; exact hw)]
  left
  left
  unfold Oper.wp
  rw [Fr_eval, hrun.out, Oper.upon_skip, Fr_put]
  exact ⟨(k w' hr).1, (k w' hr).2.out⟩
end
theorem WP_drawJ {P : Program} {n : Nat} {Q : Post} {σ : Nat → Value} {w : World} {id : Nat} {l : List Oper} (J : World → Prop) (hs ts us : List Nat) (hm : P.follows .mixedOrders = true) (hz : Nat.beq (hs.length + (ts.length + us.length)) l.length = true) (hB : permJB .any l.toArray hs ts us = true)
    (hJ : ∀ w', Below w.heap.size w w' → J w')
    (h : ∀ w', Below w.heap.size w w' → jq P n l.toArray J (fun σ' => wj P n l.toArray (calm Q) J (Pm.pk l us) (Pm.pk l ts) σ' w') (Pm.pk l hs) σ) : WP P n (.region id l.toArray true) Q σ w := by
  refine ⟨sw_mono NoPanic.imp (sw_any hm (sAny_of_J (J := J) (nj := fun d => !us.contains d) _ _ _ _ ?_))⟩
  simp only [permJB, Bool.and_eq_true] at hB
  have hq : lift n (calm Q) = NoPanic (lift n Q) := by
    funext e a w
    cases e <;> simp [lift, calm, NoPanic]
  have hb : Below w.heap.size w { w with drawn := w.drawn + 1 } := drew_grown w
  have key := headJ (P := P) (Q := NoPanic (lift n Q)) (md := .any) (J := J) (l := l) (ts := ts) (us := us) hB.1 (fun c a w h => by simp [NoPanic] at h) hs (Array.replicate l.toArray.size false) (Fr n σ) { w with drawn := w.drawn + 1 } hB.2 (fun j oj _ hl => by rw [getD_replicate_false] at hl; cases hl) (hJ _ hb)
  have e : hs.length + (ts.length + us.length) = l.toArray.size := by simpa using Nat.eq_of_beq_eq_true hz
  rw [e] at key
  refine key ?_
  have mono : ∀ (l' : List Oper) (a : Act), wpJ P l.toArray J (fun a => ∃ σ', a = Fr n σ' ∧ wj P n l.toArray (calm Q) J (Pm.pk l us) (Pm.pk l ts) σ' { w with drawn := w.drawn + 1 }) l' a →
      wpJ P l.toArray J (fun a' => sListJ P l.toArray (NoPanic (lift n Q)) J (Pm.pk l us) (Pm.pk l ts) a' { w with drawn := w.drawn + 1 }) l' a := by
    intro l'
    induction l' with
    | nil => rintro a ⟨σ', rfl, hh⟩; rw [← hq]; exact hh.out
    | cons o r ih =>
      intro a ha
      unfold wpJ at ha ⊢
      split
      · rename_i hw; rw [if_pos hw] at ha; obtain ⟨v, h1, h2⟩ := ha; exact ⟨v, h1, ih _ h2⟩
      · rename_i hw; rw [if_neg hw] at ha; exact ih _ ha
  exact mono _ _ (h _ hb).out

section
variable {P : Program} {n : Nat} {ops : Array Oper} {J : World → Prop} {K : (Nat → Value) → Prop} {TL rest : List Oper} {σ : Nat → Value} {d : Option Tmp} {ty : TypeId} {pos : String} {af : Array Edge} {g : Option (Nat × Bool)}
theorem gj_move {x : Operand} (h : jq P n ops J K (⟨d, .move x, ty, pos, af, g⟩ :: rest) σ) : jq P n ops J K (⟨d, .move x, ty, pos, af, g⟩ :: rest) σ := h
theorem gj_assign {x : Operand} (h : jq P n ops J K (⟨d, .assign x, ty, pos, af, g⟩ :: rest) σ) : jq P n ops J K (⟨d, .assign x, ty, pos, af, g⟩ :: rest) σ := h
theorem gj_load {T : TypeId} {x : Operand} (h : jq P n ops J K (⟨d, .load T x, ty, pos, af, g⟩ :: rest) σ) : jq P n ops J K (⟨d, .load T x, ty, pos, af, g⟩ :: rest) σ := h
theorem gj_fieldAddr {T : TypeId} {x : Operand} {j : Nat} (h : jq P n ops J K (⟨d, .fieldAddr T x j, ty, pos, af, g⟩ :: rest) σ) : jq P n ops J K (⟨d, .fieldAddr T x j, ty, pos, af, g⟩ :: rest) σ := h
theorem gj_extract {x : Operand} {j : Nat} (h : jq P n ops J K (⟨d, .extract x j, ty, pos, af, g⟩ :: rest) σ) : jq P n ops J K (⟨d, .extract x j, ty, pos, af, g⟩ :: rest) σ := h
theorem gj_c_len {as : Array Operand} {ts : Array TypeId} (h : jq P n ops J K (⟨d, .call { callee := .builtin .len, args := as, argTypes := ts }, ty, pos, af, g⟩ :: rest) σ) : jq P n ops J K (⟨d, .call { callee := .builtin .len, args := as, argTypes := ts }, ty, pos, af, g⟩ :: rest) σ := h
theorem gj_nilCheck {x : Operand} (h : jq P n ops J K (⟨d, .nilCheck x, ty, pos, af, g⟩ :: rest) σ) : jq P n ops J K (⟨d, .nilCheck x, ty, pos, af, g⟩ :: rest) σ := h
variable {Q : Post} {w : World}
theorem gw_move {x : Operand} (h : wj P n ops Q J TL (⟨d, .move x, ty, pos, af, g⟩ :: rest) σ w) : wj P n ops Q J TL (⟨d, .move x, ty, pos, af, g⟩ :: rest) σ w := h
theorem gw_assign {x : Operand} (h : wj P n ops Q J TL (⟨d, .assign x, ty, pos, af, g⟩ :: rest) σ w) : wj P n ops Q J TL (⟨d, .assign x, ty, pos, af, g⟩ :: rest) σ w := h
end
end Go.Gx
/-
  A drawn region with two writes in either order, writes behind them in order, and plain operations in any order at its end; loads float beside all of them.
-/
namespace Go.Gx
open Go Go.RowKit
set_option linter.unusedVariables false
set_option linter.unusedSimpArgs false
section
variable {P : Program} {ops : Array Oper} {Q : Exit → Act → World → Prop} {md : Region.Mode} {J : World → Prop}
end
section
variable {P : Program} {n : Nat} {ops : Array Oper} {Q : Post} {J : World → Prop} {E rest : List Oper} {σ : Nat → Value} {w w' : World} {o : Oper} {v : Value}
end
end Go.Gx
/-
  append onto a row that is used again: what it holds comes back when the longer one is done with.
-/
namespace Go.Gx
open Go Go.RowKit
set_option linter.unusedVariables false
set_option linter.unusedSimpArgs false

section
variable {P : Program} {ρ : Operand → Value} {w w0 : World} {d : Option Tmp} {ty : TypeId} {pos : String} {af : Array Edge} {g : Option (Nat × Bool)} {T T' : TypeId} {s t : Operand} {ex : List Ob}
end
end Go.Gx
/-
  A row's arguments opened: what the reading of an argument says of its value and its cells.
-/
namespace Go.Gx
open Go Go.RowKit Go.WideShapes Go.ChangeShapes Go.Deep
set_option linter.unusedVariables false
set_option linter.unusedSimpArgs false

def inI (x : Int) : Prop := -9223372036854775808 ≤ x ∧ x ≤ 9223372036854775807
def inK (k : IntKind) (x : Int) : Prop := k.min ≤ x ∧ x ≤ k.max
theorem inK_i64 {x : Int} (h : inK .i64 x) : inI x := by
  unfold inK at h; unfold inI; simp [IntKind.min, IntKind.max, IntKind.signed, IntKind.bits] at h; omega
theorem wf_inK {k : IntKind} {n : Int} (h : (Lit.int k n).wf = true) : inK k n := by
  simpa [Lit.wf, inK] using h

/-- Some reading of these cells, as of type t. -/
def TR {H : Type} (enc : TypeId × Value → H) (P : Program) (w : World) (t : TypeId) (cs : List Value) : Prop := ∃ fuel x, DataW.trod enc P w 0 (fun _ => true) true fuel t cs = some x

section
variable {H : Type} {enc : TypeId × Value → H} {P : Program} {w : World} {t : TypeId} {cs : List Value}

theorem TR.int {k : IntKind} (ht : P.underlying t = some (.int k)) (h : TR enc P w t cs) : ∃ n, cs = [.int k n] ∧ inK k n := by
  obtain ⟨fuel, x, h⟩ := h
  obtain ⟨n, hc, _, hw⟩ := DataW.trod_int ht h
  exact ⟨n, hc, wf_inK hw⟩
theorem TR.int64 (ht : P.underlying t = some (.int .i64)) (h : TR enc P w t cs) : ∃ n, cs = [.int .i64 n] ∧ inI n :=
  let ⟨n, hc, hw⟩ := h.int ht; ⟨n, hc, inK_i64 hw⟩
theorem TR.bool (ht : P.underlying t = some .bool) (h : TR enc P w t cs) : ∃ n, cs = [.bool n] ∧ True := by
  obtain ⟨fuel, x, h⟩ := h
  obtain ⟨n, hc, _⟩ := DataW.trod_bool ht h
  exact ⟨n, hc, trivial⟩
theorem TR.struct {fs : Array Field} (ht : P.underlying t = some (.struct fs)) (h : TR enc P w t cs) :
    cs.length = P.cellsOf t ∧ ∀ (i : Nat) (f : Field), fs[i]? = some f → TR enc P w f.type ((cs.drop f.offset).take (P.cellsOf f.type)) := by
  obtain ⟨fuel, x, h⟩ := h
  obtain ⟨xs, n, _, _, hl, hn, hf⟩ := DataW.trod_struct ht h
  refine ⟨hl, fun i f hi => ?_⟩
  have hlt : i < xs.length := by rw [hn]; exact (Array.getElem?_eq_some_iff.1 hi).1
  exact ⟨n, xs[i], by rw [hf i f hi, List.getElem?_eq_getElem hlt]⟩
theorem TR.arr {n : Nat} {e : TypeId} (ht : P.underlying t = some (.array n e)) (h : TR enc P w t cs) :
    cs.length = P.cellsOf t ∧ ∀ i, i < n → TR enc P w e ((cs.drop (i * P.cellsOf e)).take (P.cellsOf e)) := by
  obtain ⟨fuel, x, h⟩ := h
  obtain ⟨xs, m, _, _, hl, hn, hf⟩ := DataW.trod_array ht h
  refine ⟨hl, fun i hi => ?_⟩
  exact ⟨m, xs[i], by rw [hf i hi, List.getElem?_eq_getElem (by omega)]⟩

theorem join_cons {cs a b : List Value} {o n n' : Nat} (hn : n' = n) (h1 : (cs.drop o).take n' = a) (h2 : cs.drop (o + n) = b) : cs.drop o = a ++ b := by
  subst hn; rw [← h1, ← h2, ← List.drop_drop, List.take_append_drop]
theorem join_nil {cs : List Value} {n n' : Nat} (hl : cs.length = n') (hn : n' = n) : cs.drop n = [] := List.drop_eq_nil_of_le (by omega)

/-- A slice, opened element by element. -/
theorem TR.slice {α : Type} {D : Ty α} {ok : α → Prop} {e : TypeId} (ht : P.underlying t = some (.slice e)) (hc : P.cellsOf e = D.sz) (h0 : 0 < D.sz) (ho : ∀ cs, TR enc P w e cs → ∃ a, D.R w a cs ∧ ok a) (h : TR enc P w t cs) :
    ∃ v l, cs = [v] ∧ Rd D w v l ∧ (∀ x ∈ l, ok x) ∧ l.length ≤ maxLen := by
  obtain ⟨fuel, x, h⟩ := h
  rcases open_slice ht h with ⟨rfl, _⟩ | ⟨a, len, cap, m, n, Dd, Pl, rfl, _, hl, hm, hmm, hxe, hx⟩
  · exact ⟨_, [], rfl, Rd.nil D w, by simp, by simp [maxLen]⟩
  · have hcap : m = cap := by rw [hmm]; simp
    have hel : ∀ i, i < len → ∃ (y : α × List Value), w.cells? 0 (a.add (i * D.sz)) D.sz = some y.2 ∧ D.R w y.1 y.2 ∧ ok y.1 := fun i hi => by
      obtain ⟨cs', h1, h2⟩ := hx i (by omega)
      obtain ⟨z, hz1, hz2⟩ := ho cs' ⟨_, _, h2⟩
      exact ⟨(z, cs'), by rw [← hc]; exact h1, hz1, hz2⟩
    have key : ∃ l : List (α × List Value), l.length = len ∧ ∀ i y, l[i]? = some y → w.cells? 0 (a.add (i * D.sz)) D.sz = some y.2 ∧ D.R w y.1 y.2 ∧ ok y.1 := by
      clear hx hmm hm hl h hxe hcap
      induction len with
      | zero => exact ⟨[], rfl, by simp⟩
      | succ k ih =>
        obtain ⟨l, hlen, hall⟩ := ih (fun i hi => hel i (by omega))
        obtain ⟨y, hy⟩ := hel k (by omega)
        refine ⟨l ++ [y], by simp [hlen], fun i z hz => ?_⟩
        by_cases hi : i < k
        · rw [List.getElem?_append_left (by omega)] at hz; exact hall i z hz
        · rw [List.getElem?_append_right (by omega)] at hz
          have : i - l.length = 0 := by
            rcases Nat.eq_zero_or_pos (i - l.length) with h | h
            · exact h
            · rw [List.getElem?_eq_none (by simp; omega)] at hz; cases hz
          rw [this] at hz
          simp at hz
          subst hz
          rw [show i = k by omega]; exact hy
    obtain ⟨l, hlen, hall⟩ := key
    refine ⟨_, l.map (·.1), rfl, ⟨some a, cap, by simp [hlen], by simp [hlen]; omega, ?_⟩, fun x hx => ?_, by simp [hlen]; omega⟩
    · cases l with
      | nil => exact .inl ⟨rfl, fun h => by cases h⟩
      | cons y0 l' =>
        refine .inr ⟨a, rfl, ?_⟩
        have h00 := (hall 0 y0 rfl).1
        obtain ⟨_, hl0, hc0⟩ := World.cells?_some h00
        have c0 := hc0 0 h0
        rw [add_add] at c0
        simp only [Nat.zero_mul, Nat.add_zero, add_zero] at c0
        have hsome : ∃ u, w.cell? a = some u := by
          rw [c0]; exact ⟨_, List.getElem?_eq_getElem (by omega)⟩
        obtain ⟨u, hu⟩ := hsome
        have hspot : a.spot = none := by
          unfold World.cell? at hu
          split at hu
          · split at hu
            · cases hu
            · rename_i hns; cases hsp : a.spot with
              | none => rfl
              | some _ => simp [hsp] at hns
          · cases hu
        have hblk : a.block < w.heap.size := by
          unfold World.cell? at hu
          cases hh : w.heap[a.block]? with
          | none => rw [hh] at hu; cases hu
          | some o => exact (Array.getElem?_eq_some_iff.1 hh).1
        refine ⟨hspot, hblk, fun j x hj => ?_⟩
        rw [List.getElem?_map] at hj
        cases hy : (y0 :: l')[j]? with
        | none => rw [hy] at hj; cases hj
        | some y =>
          rw [hy] at hj
          simp at hj
          obtain ⟨h1, h2, _⟩ := hall j y hy
          obtain ⟨_, hl1, hcs⟩ := World.cells?_some h1
          refine ⟨y.2, by rw [← hj]; exact h2, fun i u hu => ?_⟩
          have hi : i < D.sz := by rw [← hl1]; exact (List.getElem?_eq_some_iff.1 hu).1
          rw [← add_add, hcs i hi, hu]
    · obtain ⟨y, hy, rfl⟩ := List.mem_map.1 hx
      obtain ⟨i, hi⟩ := List.getElem?_of_mem hy
      exact (hall i y hi).2.2

/-! ### Arguments -/
variable {v : Value} {d : DataW H} {p : List MemPlace}
theorem TR.of (h : DataW.Trod enc P w 0 (fun _ => true) true t v d p) : TR enc P w t v.cells.toList := let ⟨f, h⟩ := h; ⟨f, _, h⟩
theorem p_int {k : IntKind} (ht : P.underlying t = some (.int k)) (hv : Value.okWide P w .any 0 t v) (h : DataW.Trod enc P w 0 (fun _ => true) true t v d p) : ∃ n, v = .int k n ∧ inK k n :=
  let ⟨n, hn, _, _, hw⟩ := open_int ht hv h; ⟨n, hn, wf_inK hw⟩
theorem p_int64 (ht : P.underlying t = some (.int .i64)) (hv : Value.okWide P w .any 0 t v) (h : DataW.Trod enc P w 0 (fun _ => true) true t v d p) : ∃ n, v = .int .i64 n ∧ inI n :=
  let ⟨n, hn, hw⟩ := p_int ht hv h; ⟨n, hn, inK_i64 hw⟩
theorem p_slice {α : Type} {D : Ty α} {ok : α → Prop} {e : TypeId} (ht : P.underlying t = some (.slice e)) (hv : Value.okWide P w .any 0 t v) (h : DataW.Trod enc P w 0 (fun _ => true) true t v d p)
    (hc : P.cellsOf e = D.sz) (h0 : 0 < D.sz) (ho : ∀ cs, TR enc P w e cs → ∃ a, D.R w a cs ∧ ok a) : ∃ l, Rd D w v l ∧ (∀ x ∈ l, ok x) ∧ l.length ≤ maxLen := by
  obtain ⟨a, len, cap, rfl⟩ := okWide_slice ht hv
  obtain ⟨u, l, hu, h1, h2, h3⟩ := (TR.of h).slice ht hc h0 ho
  simp [Value.cells] at hu
  subst hu
  exact ⟨l, h1, h2, h3⟩
theorem p_lt (h : DataW.Trod enc P w 0 (fun _ => true) true t v d p) : ∀ x ∈ p, x.block < w.heap.size := by
  obtain ⟨m, hm⟩ := h; exact DataW.trod_lt m _ _ _ hm
end
theorem TR.same {H : Type} {enc : TypeId × Value → H} {P : Program} {w : World} {t t' : TypeId} {cs : List Value} (hu : P.underlying t = P.underlying t') (hc : P.cellsOf t = P.cellsOf t') (h : TR enc P w t cs) : TR enc P w t' cs := by
  obtain ⟨fuel, x, h⟩ := h
  cases fuel with
  | zero => simp [DataW.trod] at h
  | succ f =>
    refine ⟨f + 1, ?_⟩
    unfold DataW.trod at h ⊢
    rw [hu, hc] at h
    generalize P.underlying t' = u at h ⊢
    split at h
    all_goals first
      | exact ⟨_, h⟩
      | skip
    all_goals simp
end Go.Gx
