/-
  Worlds that only grow, and whose draws are counted.
-/
import Derived.Test.YtcbidfedffegpaaGxJ
import Derived.Sort.Grow
import Derived.Deep.Draws
namespace Go.Gx
open Go Go.RowKit
set_option linter.unusedVariables false
set_option linter.unusedSimpArgs false

structure GX (w w' : World) : Prop where
  below : Below w.heap.size w w'
  drawn : w.drawn ≤ w'.drawn
theorem GX.refl (w : World) : GX w w := ⟨Below.refl _ _, Nat.le_refl _⟩
theorem GX.trans {a b c : World} (h : GX a b) (k : GX b c) : GX a c := ⟨h.below.trans (k.below.mono h.below.size), Nat.le_trans h.drawn k.drawn⟩
theorem GX.alloc (w : World) (o : Obj) : GX w (w.alloc o) := ⟨below_alloc _ _, Nat.le_refl _⟩
theorem GX.drew (w : World) : GX w { w with drawn := w.drawn + 1 } := ⟨drew_grown w, Nat.le_succ _⟩
theorem GX.grow {w w' : World} (h : GX w w') : ∃ q os', w' = Go.Sort.grow (w.drewN q) os' := by
  obtain ⟨⟨h1, h2, h3, h4, h5⟩, h6⟩ := h
  refine ⟨w'.drawn - w.drawn, w'.heap.extract w.heap.size w'.heap.size, ?_⟩
  obtain ⟨heap, tape, drawn, os, output⟩ := w
  obtain ⟨heap', tape', drawn', os', output'⟩ := w'
  simp only at h1 h2 h3 h4 h5 h6
  subst h1 h2 h3
  unfold Go.Sort.grow World.drewN
  simp only [World.mk.injEq, and_true, true_and]
  refine ⟨?_, by omega⟩
  apply Array.ext_getElem?
  intro j
  rw [Array.getElem?_append]
  split
  · rename_i hj; exact h5 j hj
  · rename_i hj
    rw [Array.getElem?_extract]
    split
    · congr 1; omega
    · rw [Array.getElem?_eq_none (by omega)]
section
variable {P : Program} {ρ : Operand → Value} {w w0 : World} {d : Option Tmp} {ty : TypeId} {pos : String} {af : Array Edge} {g : Option (Nat × Bool)} {T : TypeId} {s t : Operand} {os : List Ob}
theorem r_boxX {v : Value} (S : St w0 w os) (h1 : ρ s = v) :
    ∃ v' w', Runs P ρ ⟨d, .box T s, ty, pos, af, g⟩ w (.ok (.value v') w') ∧ ∃ b, v' = .pointer (some ⟨b, 0, none⟩) ∧ GX w w' ∧ St w0 w' (os ++ [.var b T v.cells.toList]) := by
  refine ⟨_, w.alloc (.cells v.cells T), ⟨?_⟩, w.heap.size, rfl, GX.alloc _ _, S.new (below_alloc _ _) ⟨Nat.le_refl _, by simpa using heap_alloc_new w _⟩⟩
  simp only [execOp, h1, Instr.box]
  rfl
theorem r_litX {e : TypeId} {size bytes : Nat} {z : Value} {ps : Array (Nat × Operand)} {vs : List Value} {m : Nat} [hT : IsSlice P T e] [hI : TI P e z size bytes] (S : St w0 w os) (hp : (ps.map fun (i, x) => (i, ρ x)) = (parts 0 vs).toArray) (hm : m = vs.length)
    (hz : z.cells.size = size) (h0 : 0 < m * size) (hb : m * size ≤ 16777216)
    (hv : ∀ v ∈ vs, v.cells.size = size) :
    ∃ v' w', Runs P ρ ⟨d, .buildSlice T m ps, ty, pos, af, g⟩ w (.ok (.value v') w') ∧ ∃ b, v' = .slice (some ⟨b, 0, none⟩) m m ∧ GX w w' ∧ CellsAt w' ⟨b, 0, none⟩ (cellsOf vs) ∧ St w0 w' (os ++ [.row v' e size m (cellsOf vs)]) := by
  obtain ⟨i, hi, hz', hs, _⟩ := hI.out
  subst hs
  subst hm
  have hsz : (cellsOf vs).length = vs.length * i.size := by
    clear hp h0 hb
    induction vs with
    | nil => simp [cellsOf]
    | cons v r ih =>
      have h1 := ih (fun u hu => hv u (List.mem_cons_of_mem _ hu))
      have h2 := hv v (List.mem_cons_self ..)
      simp only [cellsOf, List.flatMap_cons, List.length_append, List.length_cons, Array.length_toList] at *
      rw [h1, h2, Nat.add_mul]; omega
  have hfill : Instr.fill (fun j => some (j * i.size, i.size)) ((Array.range (vs.length * i.size)).map (z.cells[· % z.cells.size]!)) (parts 0 vs) = some (cellsOf vs).toArray := by
    rw [fill_parts i.size vs 0 _ hv (by simp)]
    simp
  refine ⟨_, w.alloc (.cells (cellsOf vs).toArray e), ⟨?_⟩, w.heap.size, rfl, GX.alloc _ _, ?_, ?_⟩
  · have hle : ¬ (vs.length * i.size > 2 ^ 24) := by omega
    have hne : ¬ (vs.length * i.size = 0) := by omega
    simp only [execOp, Instr.buildSlice]
    rw [hp]
    refine run_bind (a := Value.slice (some ⟨w.heap.size, 0, none⟩) vs.length vs.length) ?_
    refine (run_bind (run_underlying' hT.out)).trans ?_
    refine (run_bind (run_sizeOf' hi)).trans ?_
    simp only [hle, if_false, hne]
    refine (run_bind (run_zeroValue' hi hz')).trans ?_
    refine (run_bind (a := z.cells) rfl).trans ?_
    simp only [hfill]
    rfl
  · refine ⟨by simp, rfl, fun j u hj => ?_⟩
    have : (⟨w.heap.size, 0, none⟩ : Addr).add j = ⟨w.heap.size, j, none⟩ := by unfold Addr.add; split <;> simp_all
    rw [this, World.cell?_alloc_new]; simpa using hj
  · refine S.new (below_alloc _ _) ?_
    by_cases hlen : vs.length ≤ maxLen
    · have := World.ownsRow_lit (base := w.heap.size) (e := e) (size := i.size) w (cellsOf vs).toArray vs.length (Nat.le_refl _) hlen (by simpa using hsz)
      show World.ownsRow _ _ _ _ _ _ _
      simpa using this
    · exfalso
      have : vs.length ≤ vs.length * i.size := Nat.le_mul_of_pos_right _ (by rcases Nat.eq_zero_or_pos i.size with h | h; rw [h] at h0; omega; exact h)
      simp [maxLen] at hlen; omega

theorem r_litFX {α : Type} {D : Flat α} {e : TypeId} {bytes m : Nat} {z : Value} {ps : List (Nat × Operand)} (xs : List α) (val : α → Value) [hT : IsSlice P T e] [hI : TI P e z D.sz bytes] (S : St w0 w os)
    (hp : (ps.map fun p => (p.1, ρ p.2)) = parts 0 (xs.map val)) (hm : m = xs.length) (hval : ∀ x, (val x).cells.toList = D.enc x) (hz : z.cells.size = D.sz) (h0 : 0 < m * D.sz) (hb : m * D.sz ≤ 16777216) :
    ∃ v' w', Runs P ρ ⟨d, .buildSlice T m ps.toArray, ty, pos, af, g⟩ w (.ok (.value v') w') ∧ ∃ b, v' = .slice (some ⟨b, 0, none⟩) xs.length xs.length ∧ GX w w' ∧ CellsAt w' ⟨b, 0, none⟩ (fl D xs) ∧ St w0 w' (os ++ [rowOb D e v' xs]) := by
  subst hm
  have h := r_litX (P := P) (ρ := ρ) (d := d) (ty := ty) (pos := pos) (af := af) (g := g) (T := T) (ps := ps.toArray) (vs := xs.map val) (m := xs.length) S (by rw [← hp]; simp) (by simp) hz h0 hb
    (fun v hv => by obtain ⟨x, _, rfl⟩ := List.mem_map.1 hv; have := congrArg List.length (hval x); simpa [D.len] using this)
  rw [cellsOf_val hval] at h
  exact h
end
theorem WP_drawJx {P : Program} {n : Nat} {Q : Post} {σ : Nat → Value} {w : World} {id : Nat} {l : List Oper} (J : World → Prop) (hs ts us : List Nat) (hm : P.follows .mixedOrders = true) (hz : Nat.beq (hs.length + (ts.length + us.length)) l.length = true) (hB : permJB .any l.toArray hs ts us = true)
    (hJ : J { w with drawn := w.drawn + 1 })
    (h : jq P n l.toArray J (fun σ' => wj P n l.toArray (calm Q) J (Pm.pk l us) (Pm.pk l ts) σ' { w with drawn := w.drawn + 1 }) (Pm.pk l hs) σ) : WP P n (.region id l.toArray true) Q σ w := by
  refine ⟨sw_mono NoPanic.imp (sw_any hm (sAny_of_J (J := J) (nj := fun d => !us.contains d) _ _ _ _ ?_))⟩
  simp only [permJB, Bool.and_eq_true] at hB
  have hq : lift n (calm Q) = NoPanic (lift n Q) := by
    funext e a w
    cases e <;> simp [lift, calm, NoPanic]
  have hb : Below w.heap.size w { w with drawn := w.drawn + 1 } := drew_grown w
  have key := headJ (P := P) (Q := NoPanic (lift n Q)) (md := .any) (J := J) (l := l) (ts := ts) (us := us) hB.1 (fun c a w h => by simp [NoPanic] at h) hs (Array.replicate l.toArray.size false) (Fr n σ) { w with drawn := w.drawn + 1 } hB.2 (fun j oj _ hl => by rw [getD_replicate_false] at hl; cases hl) hJ
  have e : hs.length + (ts.length + us.length) = l.toArray.size := by simpa using Nat.eq_of_beq_eq_true hz
  rw [e] at key
  refine key ?_
  have mono : ∀ (l' : List Oper) (a : Act), wpJ P l.toArray J (fun a => ∃ σ', a = Fr n σ' ∧ wj P n l.toArray (calm Q) J (Pm.pk l us) (Pm.pk l ts) σ' { w with drawn := w.drawn + 1 }) l' a →
      wpJ P l.toArray J (fun a' => sListJ P l.toArray (NoPanic (lift n Q)) J (Pm.pk l us) (Pm.pk l ts) a' { w with drawn := w.drawn + 1 }) l' a := by
    intro l'
    induction l' with
    | nil => rintro a ⟨σ', rfl, hh⟩; rw [← hq]; exact hh.out
    | cons o r ih =>
      intro a ha
      unfold wpJ at ha ⊢
      split
      · rename_i hw; rw [if_pos hw] at ha; obtain ⟨v, h1, h2⟩ := ha; exact ⟨v, h1, ih _ h2⟩
      · rename_i hw; rw [if_neg hw] at ha; exact ih _ ha
  exact mono _ _ h.out

end Go.Gx
