/-
  A range over a function: the loop's record and the block for deferred calls are objects of the call's own; frames that bear marks of such loops.
-/
import Derived.Test.YtfdjnadopniaeaaGxJ
import Derived.RangeFuncLeaves
import Derived.RangeFuncOwn
namespace Go.Gx
open Go Go.RowKit
set_option linter.unusedVariables false
set_option linter.unusedSimpArgs false

/-! ### Objects told raw -/
theorem St.rawAt {w0 w : World} {os : List Ob} (S : St w0 w os) {i b : Nat} {o : Obj} (hi : os[i]? = some (.raw b o)) : w.heap[b]? = some o := (S.ok _ (mem_of_get hi)).2
theorem St.putRaw {w0 w : World} {os : List Ob} (S : St w0 w os) {i b : Nat} {o : Obj} (o' : Obj) (hi : os[i]? = some (.raw b o)) : St w0 (w.putObj b o') (os.set i (.raw b o')) := by
  have h := S.ok _ (mem_of_get hi)
  exact S.write hi (grownBy_putObj' w b o') ⟨h.1, World.putObj_heap_same (heap_lt h.2)⟩ (.inl rfl)
theorem St.newRaw {w0 w : World} {os : List Ob} (S : St w0 w os) (o : Obj) : St w0 (w.alloc o) (.raw w.heap.size o :: os) :=
  (S.new (o := .raw w.heap.size o) (below_alloc w o) ⟨Nat.le_refl _, World.alloc_heap_new w o⟩).front

/-! ### The loop's record, and a round -/
abbrev recL (fn : FuncId) (tmps : Array Value) (ps : Array Tmp) (assign body : Code) (Dk : Nat) : Loop := { state := .ready, pending := none, fn := fn, tmps := tmps, params := ps, assign := assign, body := body, defers := Dk }
abbrev recJ (r : Loop) (jump : Option Code) : Loop := { r with state := if jump.isNone then .ready else .done, pending := jump }
theorem recJ_none (r : Loop) (h : r.state = .ready) (h2 : r.pending = none) : recJ { r with state := .busy } none = r := by cases r; simp at h h2; subst h h2; rfl

/-- How a round may be left. -/
def jumpOf : Exit → Option (Option Code)
  | .normal => some none
  | .ret => some (some .ret)
  | .exit id => some (some (.exit id))
  | _ => none

theorem round_WP {P : Program} {n L : Nat} {r : Loop} {w0 w : World} {os : List Ob} {σ1 : Nat → Value} {tmps : Array Value} {R : Value → World → Prop} (S : St w0 w (.raw L (.loop r) :: os)) (hr : r.state = .ready) (hd1 : noDefer r.assign = true) (hd2 : noDefer r.body = true)
    (ht : tmps = (Fr n σ1).tmps)
    (h : WP P n r.assign (fun e σ2 w2 => e = .normal ∧ ∃ os2, St w0 w2 (.raw L (.loop r) :: os2) ∧ ∀ w3, St w0 w3 (.raw L (.loop { r with state := .busy }) :: os2) →
      WP P n r.body (fun e σ4 w4 => ∃ jump os4, jumpOf e = some jump ∧ St w0 w4 (.raw L (.loop { r with state := .busy }) :: os4) ∧ ∀ w5, St w0 w5 (.raw L (.loop (recJ r jump)) :: os4) → R (.bool jump.isNone) w5) σ2 w3) σ1 w) :
    RoundIn Fence.wide 0 P L r.fn tmps r.assign r.body w fun e w'' => ∃ v, e = .returned v ∧ R v w'' := by
  subst ht
  refine roundIn_of_wpIn trivial ?_
  have z := sw_in (r := some L) (m := 0) (D := []) (.inr hd1) (by rintro ⟨a, w, σ', _, h⟩; cases h.1) h.out
  rw [actD_nil] at z
  have e0 : Fr n σ1 = { tmps := (Fr n σ1).tmps, defers := [] } := rfl
  rw [← e0]
  refine wpIn_mono (F := widR (some L)) z ?_
  rintro e a2 w2 ⟨b, hb, σ2, ha, he, os2, S2, hk⟩
  subst he ha
  rw [actD_nil] at hb
  subst hb
  have hrun := run_beginRound (P := P) (S2.rawAt (i := 0) rfl) hr
  refine ⟨_, hrun, ?_⟩
  have S3 : St w0 _ (.raw L (.loop { r with state := .busy }) :: os2) := S2.putRaw (i := 0) (.loop { r with state := .busy }) rfl
  have z := sw_in (r := some L) (m := 0) (D := []) (.inr hd2) (by rintro ⟨a, w, σ', _, j, os4, h, _⟩; cases h) (hk _ S3).out
  rw [actD_nil] at z
  refine wpIn_mono (F := widR (some L)) z ?_
  rintro e a4 w4 ⟨b, hb, σ4, ha, jump, os4, hj, S4, hk4⟩
  subst ha
  have hend := fun (j : Option Code) => run_endRound (P := P) j (S4.rawAt (i := 0) rfl)
  have S5 : St w0 _ (.raw L (.loop (recJ r jump)) :: os4) := S4.putRaw (i := 0) (.loop (recJ r jump)) rfl
  cases e with
  | normal => cases hj; exact ⟨_, _, hend none, _, rfl, hk4 _ S5⟩
  | ret => cases hj; exact ⟨_, _, hend (some .ret), _, rfl, hk4 _ S5⟩
  | exit id => cases hj; exact ⟨_, _, hend (some (.exit id)), _, rfl, hk4 _ S5⟩
  | goto t => cases hj
  | panic c => cases hj
  | outgrown => cases hj

/-- A call of yield. -/
theorem r_yield1 {P : Program} {ρ : Operand → Value} {w w0 : World} {d : Option Tmp} {ty : TypeId} {pos : String} {af : Array Edge} {g : Option (Nat × Bool)} {fo a0 : Operand} {v0 : Value} {L i : Nat} {r : Loop} {p : Tmp} {ats : Array TypeId} {os : List Ob} (S : St w0 w os) (hi : os[i]? = some (.raw L (.loop r)))
    (hf : ρ fo = .func (.yield L) #[] #[]) (h0 : ρ a0 = v0) (hp : r.params = #[p]) :
    Runs P ρ ⟨d, .call { callee := .value fo, args := #[a0], argTypes := ats }, ty, pos, af, g⟩ w (.ok (.round L r.fn (r.tmps.setIfInBounds p v0) r.assign r.body) w) :=
  ⟨by
    have e := run_yield (P := P) (args := #[v0]) (S.rawAt hi) (by rw [hp]; rfl)
    rw [hp] at e
    simp only [execOp, resolve, hf, Deferred.ofValue, List.map_toArray, List.map_cons, List.map_nil, h0]
    simpa [invoke, bind, Sem.bind, pure] using e⟩
theorem Fr_set (n : Nat) (σ : Nat → Value) (p : Nat) (v : Value) : (Fr n σ).tmps.setIfInBounds p v = (Fr n (upd σ p v)).tmps := congrArg Act.tmps (Fr_put n σ (some p) v)

/-! ### Frames that bear marks -/
def markD (b : Nat) : Deferred := { target := .collected b, args := #[] }
abbrev PostD := Exit → List Nat → (Nat → Value) → World → Prop
def liftD (n : Nat) (Q : PostD) : Exit → Act → World → Prop := fun e a w => ∃ D σ, a = actD (D.map markD) (Fr n σ) ∧ Q e D σ w
structure WD (P : Program) (n : Nat) (c : Code) (Q : PostD) (D : List Nat) (σ : Nat → Value) (w : World) : Prop where mk :: (out : c.wpIn Fence.wide 0 P (liftD n Q) (actD (D.map markD) (Fr n σ)) w)
class NoOut (Q : PostD) : Prop where out : ∀ D σ w, ¬ Q .outgrown D σ w
section
variable {P : Program} {n : Nat} {Q : PostD} {D : List Nat} {σ : Nat → Value} {w : World}
theorem WD_of {c : Code} [hQ : NoOut Q] (h : WP P n c (fun e σ w => Q e D σ w) σ w) : WD P n c Q D σ w := ⟨by
  have z := sw_in (r := none) (m := 0) (D := D.map markD) (.inl rfl) (by rintro ⟨a, w, σ', _, h⟩; exact hQ.out _ _ _ h) h.out
  refine wpIn_mono (F := Fence.wide) z ?_
  rintro e a w1 ⟨b, hb, σ', ha, hq⟩
  subst ha
  exact ⟨D, σ', hb, hq⟩⟩
def thenDP (k : List Nat → (Nat → Value) → World → Prop) (Q : PostD) : PostD
  | .normal, D, σ, w => k D σ w
  | e, D, σ, w => Q e D σ w
def inBDP (id : Nat) (Q : PostD) : PostD
  | .exit id', D, σ, w => if id' = id then Q .normal D σ w else Q (.exit id') D σ w
  | e, D, σ, w => Q e D σ w
instance {k : List Nat → (Nat → Value) → World → Prop} [h : NoOut Q] : NoOut (thenDP k Q) := ⟨fun D σ w => h.out D σ w⟩
instance {id : Nat} [h : NoOut Q] : NoOut (inBDP id Q) := ⟨fun D σ w => h.out D σ w⟩
theorem WD_seq {x y : Code} (h : WD P n x (thenDP (WD P n y Q) Q) D σ w) : WD P n (.seq x y) Q D σ w := ⟨by
  refine wpIn_seq (wpIn_mono h.out ?_)
  rintro e a w1 ⟨D', σ', ha, hq⟩
  subst ha
  cases e with
  | normal => exact WD.out hq
  | exit id => exact ⟨D', σ', rfl, hq⟩
  | goto l => exact ⟨D', σ', rfl, hq⟩
  | ret => exact ⟨D', σ', rfl, hq⟩
  | panic c => exact ⟨D', σ', rfl, hq⟩
  | outgrown => exact ⟨D', σ', rfl, hq⟩⟩
theorem WD_block {id : Nat} {c : Code} (h : WD P n c (inBDP id Q) D σ w) : WD P n (.block id c) Q D σ w := ⟨by
  refine wpIn_block (wpIn_mono h.out ?_)
  rintro e a w1 ⟨D', σ', ha, hq⟩
  subst ha
  cases e with
  | exit id' =>
    have hq' : if id' = id then Q .normal D' σ' w1 else Q (.exit id') D' σ' w1 := hq
    show if id' = id then liftD n Q .normal _ w1 else liftD n Q (.exit id') _ w1
    by_cases e : id' = id
    · rw [if_pos e] at hq' ⊢; exact ⟨D', σ', rfl, hq'⟩
    · rw [if_neg e] at hq' ⊢; exact ⟨D', σ', rfl, hq'⟩
  | normal => exact ⟨D', σ', rfl, hq⟩
  | goto l => exact ⟨D', σ', rfl, hq⟩
  | ret => exact ⟨D', σ', rfl, hq⟩
  | panic c => exact ⟨D', σ', rfl, hq⟩
  | outgrown => exact ⟨D', σ', rfl, hq⟩⟩
theorem WD_loop {c : Code} (I : Nat → List Nat → (Nat → Value) → World → Prop) (k0 : Nat) (h0 : I k0 D σ w)
    (round : ∀ k D σ w, I k D σ w → WD P n c (thenDP (fun D σ w => ∃ k', k' < k ∧ I k' D σ w) Q) D σ w) : WD P n (.loop c) Q D σ w := ⟨by
  refine wpIn_loop_ghost (fun k a w => ∃ D σ', a = actD (D.map markD) (Fr n σ') ∧ I k D σ' w) k0 ⟨D, σ, rfl, h0⟩ ?_
  rintro k a w ⟨D', σ', rfl, hI⟩
  refine wpIn_mono (round k D' σ' w hI).out ?_
  rintro e a w1 ⟨D2, σ2, ha, hq⟩
  subst ha
  cases e with
  | normal => obtain ⟨k', hk, hI'⟩ := hq; exact ⟨k', hk, D2, σ2, rfl, hI'⟩
  | exit id => exact ⟨D2, σ2, rfl, hq⟩
  | goto l => exact ⟨D2, σ2, rfl, hq⟩
  | ret => exact ⟨D2, σ2, rfl, hq⟩
  | panic c => exact ⟨D2, σ2, rfl, hq⟩
  | outgrown => exact ⟨D2, σ2, rfl, hq⟩⟩
theorem thenD_normal {k : List Nat → (Nat → Value) → World → Prop} (h : k D σ w) : thenDP k Q .normal D σ w := h
theorem thenD_exit {k : List Nat → (Nat → Value) → World → Prop} {id : Nat} (h : Q (.exit id) D σ w) : thenDP k Q (.exit id) D σ w := h
theorem thenD_ret {k : List Nat → (Nat → Value) → World → Prop} (h : Q .ret D σ w) : thenDP k Q .ret D σ w := h
theorem inBD_normal {id : Nat} (h : Q .normal D σ w) : inBDP id Q .normal D σ w := h
theorem inBD_ret {id : Nat} (h : Q .ret D σ w) : inBDP id Q .ret D σ w := h
theorem inBD_here {id : Nat} (h : Q .normal D σ w) : inBDP id Q (.exit id) D σ w := by
  show if id = id then Q .normal D σ w else Q (.exit id) D σ w
  rw [if_pos rfl]; exact h
theorem WD_has {c : Code} {l : List (Nat × Value)} (h : Has σ l) (k : WD P n c Q D (upds σ l) w) : WD P n c Q D σ w := by rwa [upds_self h] at k
theorem WD_ret (h : Q .ret D σ w) : WD P n .ret Q D σ w := ⟨wpIn_ret ⟨D, σ, rfl, h⟩⟩
theorem WD_exit {id : Nat} (h : Q (.exit id) D σ w) : WD P n (.exit id) Q D σ w := ⟨wpIn_exit ⟨D, σ, rfl, h⟩⟩
/-- The statement. -/
theorem WD_range {g : Operand} {ps : Array Tmp} {assign body : Code} {w0 : World} {os : List Ob} {gf : Nat} {lb : List Value} [he : Enters P gf] (S : St w0 w os) (hg : opv (cut n σ) g = .func (.func gf) #[] lb.toArray)
    (h : ∀ (fn L Dk : Nat) (w1 : World) (r : Loop), r = recL fn (Fr n σ).tmps ps assign body Dk → St w0 w1 (.raw L (.loop r) :: .raw Dk (.deferred (some [])) :: os) →
      Calls P gf (.func (.yield L) #[] #[] :: lb).toArray w1 fun e w' => (∃ v, e = .returned v) ∧ ∃ jump os', St w0 w' (.raw L (.loop (recJ r jump)) :: os') ∧
        ∀ w2, St w0 w2 os' → match jump with | none => Q .normal (Dk :: D) σ w2 | some c => WD P n c Q (Dk :: D) σ w2) :
    WD P n (.rangeFunc g ps assign body) Q D σ w := ⟨by
  refine wpIn_rangeFunc fun fn _ => ?_
  have hent := run_enterLoop_outer (P := P) (w := w) fn (Fr n σ).tmps ps assign body
  have S1 := (S.newRaw (.deferred (some []))).newRaw (.loop (recL fn (Fr n σ).tmps ps assign body w.heap.size))
  rw [World.size_alloc] at S1
  refine ⟨_, _, _, { target := .fn (.func gf) lb.toArray, args := #[.func (.yield (w.heap.size + 1)) #[] #[]] }, (w.alloc (.deferred (some []))).alloc (.loop (recL fn (Fr n σ).tmps ps assign body w.heap.size)), gf, (.func (.yield (w.heap.size + 1)) #[] #[] :: lb).toArray, _, hent, ?_, fun _ _ => trivial, ?_, (fun h => nomatch h), callsIn_wide.2 (Calls.mono (h fn (w.heap.size + 1) w.heap.size _ _ rfl S1) ?_)⟩
  · have hev : (actD (D.map markD) (Fr n σ)).eval g = .func (.func gf) #[] lb.toArray := by rw [actD_eval, Fr_eval]; exact hg
    simp only [resolve, rangeCall, hev, Deferred.ofValue]
    simp [pure, Sem.run, Act.eval]
  · have := he.out (.func (.yield (w.heap.size + 1)) #[] #[] :: lb).toArray
      ((w.alloc (.deferred (some []))).alloc (.loop (recL fn (Fr n σ).tmps ps assign body w.heap.size)))
    simpa [invoke, bind, Sem.bind, pure] using this
  · rintro e w' ⟨⟨v, rfl⟩, jump, os', S', hk⟩
    have hend := run_endLoop (P := P) (S'.rawAt (i := 0) rfl) (by show (if jump.isNone then LoopState.ready else .done) ≠ .busy; split <;> simp)
    have S2 := (S'.putRaw (i := 0) (.loop { recJ (recL fn (Fr n σ).tmps ps assign body w.heap.size) jump with state := .exhausted }) rfl).tail
    refine ⟨jump, _, hend, ?_⟩
    have e0 : ({ actD (D.map markD) (Fr n σ) with defers := [{ target := .collected w.heap.size, args := #[] }] ++ (actD (D.map markD) (Fr n σ)).defers } : Act) = actD ((w.heap.size :: D).map markD) (Fr n σ) := by
      simp [actD, Fr, markD]
    have h2 := hk _ S2
    cases jump with
    | none => exact ⟨_, σ, e0, h2⟩
    | some c => show c.wpIn Fence.wide 0 P (liftD n Q) _ _; rw [e0]; exact h2.out⟩
end

/-! ### A call's begin and end -/
abbrev marks (D : List Nat) : List Ob := D.map fun b => .raw b (.deferred (some []))
def endDD (P : Program) (fn : Func) (n : Nat) (R : Ending → World → Prop) : PostD := fun e D σ w =>
  match e with
  | .normal | .ret => LeavesInM Fence.wide 0 P fn (Fr n σ).tmps R (D.map markD) .returning w
  | _ => False
instance {P : Program} {fn : Func} {n : Nat} {R : Ending → World → Prop} : NoOut (endDD P fn n R) := ⟨fun _ _ _ h => h⟩
theorem leaves_marks {P : Program} {fn : Func} {tmps : Array Value} {R : Ending → World → Prop} {w0 : World} {os : List Ob} (h : ∀ w', St w0 w' os → ∃ v, (results fn tmps).run P w' = .ok v w' ∧ R (.returned v) w') :
    ∀ (D : List Nat) (w : World), St w0 w (marks D ++ os) → LeavesInM Fence.wide 0 P fn tmps R (D.map markD) .returning w
  | [], w, S => h w S
  | b :: D, w, S => by
    refine ⟨by simp, .inl ⟨b, _, rfl, run_takeDeferred (S.rawAt (i := 0) rfl), leaves_marks h D _ ?_⟩⟩
    exact (S.putRaw (i := 0) (.deferred none) rfl).tail
theorem calls_enterD {P : Program} {f n : Nat} {fn : Func} {c : Code} {l : List Value} {w : World} {R : Ending → World → Prop} (hf : P.funcs[f]? = some fn) (hb : fn.body = some c)
    (hn : fn.ntmps = n) (hln' : Nat.ble l.length n = true) (h : WD P n c (endDD P fn n R) [] (args0 l 0) w) : Calls P f l.toArray w R := by
  subst hn
  have hln : l.length ≤ fn.ntmps := Nat.le_of_ble_eq_true hln'
  refine callsIn_wide.1 (callsIn_of_wp_marks (F := Fence.wide) (n := 0) hf hb trivial ?_)
  have hfr : ({ tmps := l.toArray ++ Array.replicate (fn.ntmps - l.toArray.size) undef, defers := [] } : Act) = Fr fn.ntmps (args0 l 0) := by
    unfold Fr
    congr 1
    apply Array.ext_getElem?
    intro i
    rw [Array.getElem?_ofFn, Array.getElem?_append]
    by_cases h1 : i < l.length
    · have h2 : i < fn.ntmps := by omega
      simp [h1, h2, args0_get]
    · by_cases h2 : i < fn.ntmps
      · have h3 : i - l.length < fn.ntmps - l.length := by omega
        simp [h1, h2, args0_get, h3]
      · have h3 : ¬ i - l.length < fn.ntmps - l.length := by omega
        simp [h1, h2, h3]
  rw [hfr]
  have z := h.out
  rw [List.map_nil, actD_nil] at z
  refine wpIn_mono z ?_
  rintro e a w1 ⟨D, σ, rfl, hq⟩
  have ht : (actD (D.map markD) (Fr fn.ntmps σ)).tmps = (Fr fn.ntmps σ).tmps := rfl
  have hd : (actD (D.map markD) (Fr fn.ntmps σ)).defers = D.map markD := by simp [actD, Fr]
  cases e with
  | normal => show LeavesInM _ _ _ _ _ _ _ _ _; rw [ht, hd]; exact hq
  | ret => show LeavesInM _ _ _ _ _ _ _ _ _; rw [ht, hd]; exact hq
  | exit id => exact hq.elim
  | goto l => exact hq.elim
  | panic c => exact hq.elim
  | outgrown => exact hq.elim
/-- Two results that lie in variables. -/
theorem res_cells2 {P : Program} {fn : Func} {n : Nat} {σ : Nat → Value} {w0 w : World} {t u T T2 b b2 i i2 : Nat} {os : List Ob} {T' T2' : TypeId} {v v2 : Value} [hT : TF P T false 1] [hT2 : TF P T2 false 1]
    (hr : fn.results = #[.cell t T, .cell u T2]) (hv : cut n σ t = .pointer (some ⟨b, 0, none⟩)) (hv2 : cut n σ u = .pointer (some ⟨b2, 0, none⟩)) (S : St w0 w os) (hi : os[i]? = some (.var b T' [v])) (hi2 : os[i2]? = some (.var b2 T2' [v2])) :
    (results fn (Fr n σ).tmps).run P w = .ok (.tuple #[v, v2]) w := by
  unfold results
  rw [hr]
  refine (run_bind (mapM_two (b := v) (b2 := v2) (w1 := w) (w2 := w) ?_ ?_)).trans rfl
  · show (do loadVar T (← asAddr ((Fr n σ).tmps.getD t undef)) : Sem Value).run P w = _
    rw [Fr_getD, hv]
    exact loadVar1 S hi
  · show (do loadVar T2 (← asAddr ((Fr n σ).tmps.getD u undef)) : Sem Value).run P w = _
    rw [Fr_getD, hv2]
    exact loadVar1 S hi2
end Go.Gx
