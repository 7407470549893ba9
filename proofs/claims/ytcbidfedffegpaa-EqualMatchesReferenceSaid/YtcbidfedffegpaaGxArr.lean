/-
  Slices of arrays; rows that grow ahead of being filled.
-/
import Derived.Test.YtcbidfedffegpaaGxQue
namespace Go.Gx
open Go Go.RowKit
set_option linter.unusedVariables false
set_option linter.unusedSimpArgs false
section
variable {P : Program} {ρ : Operand → Value} {w w0 : World} {d : Option Tmp} {ty : TypeId} {pos : String} {af : Array Edge} {g : Option (Nat × Bool)} {T : TypeId} {s t : Operand} {os : List Ob}
/-- All of an array. -/
theorem r_sliceArr {a : Addr} {n sz : Nat} {e : TypeId} {ag : Bool} [hT : IsArr P T n e] [hS : TF P e ag sz] (h1 : ρ s = .pointer (some a)) (h0 : 0 < n) :
    Runs P ρ ⟨d, .slice T s none none none, ty, pos, af, g⟩ w (.ok (.value (.slice (some a) n n)) w) := by
  refine ⟨?_⟩
  have hs' := hS.sizeOf w
  simp only [execOp, h1, Instr.sliceAt, Option.map_none]
  have : ¬ n = 0 := by omega
  simp [run_underlying' hT.out, Instr.sliceBounds, Instr.sliceBound, hs', Instr.sureAddr, this, add_zero]
/-- The first elements of an array. -/
theorem r_sliceArrHi {a : Addr} {n sz : Nat} {e : TypeId} {ag : Bool} {b : Operand} {k : IntKind} {hi : Int} [hT : IsArr P T n e] [hS : TF P e ag sz] (h1 : ρ s = .pointer (some a)) (h2 : ρ b = .int k hi) (h3 : 0 ≤ hi) (h4 : hi ≤ n) (h0 : 0 < n) :
    Runs P ρ ⟨d, .slice T s none (some b) none, ty, pos, af, g⟩ w (.ok (.value (.slice (some a) hi.toNat n)) w) := by
  refine ⟨?_⟩
  have hs' := hS.sizeOf w
  simp only [execOp, h1, h2, Instr.sliceAt, Option.map_none, Option.map_some]
  have : ¬ n = 0 := by omega
  simp [run_underlying' hT.out, Instr.sliceBounds, Instr.sliceBound, asIntOf, hs', Instr.sureAddr, this, add_zero, h3, h4]
/-- Cells of a variable read as a slice. -/
theorem Rd.ofCells {α : Type} {D : Flat α} {w : World} {b o c : Nat} {cs : List Value} {l : List α} (h : CellsAt w ⟨b, 0, none⟩ cs) (hc : l.length ≤ c) (hl : ∀ j u, (fl D l)[j]? = some u → cs[o + j]? = some u) : Rd D.ty w (.slice (some ⟨b, o, none⟩) l.length c) l := by
  refine ⟨_, _, rfl, hc, .inr ⟨_, rfl, rfl, h.1, fun j x hj => ⟨_, rfl, fun k u hu => ?_⟩⟩⟩
  have := h.2.2 (o + (j * D.sz + k)) u (hl _ u (fl_getQ hj hu))
  rw [add_lit, Nat.zero_add] at this
  rw [add_lit]; exact this
theorem run_append_zeros {P : Program} {w : World} (t u ty e : TypeId) (i : TypeInfo) (z : Value) (k : IntKind) (ht : P.underlying t = some (.slice e)) (hu : P.underlying u = some (.int k)) (hi : P.info? e = some i) (hz : i.zero = some z)
    (m : Nat) (h0 : 0 < m) (hs : 0 < i.size) (h63 : (m : Int) ≤ 9223372036854775807) (h48 : m * i.bytes ≤ 281474976710656) :
    (Builtin.append_ #[t, u] ty #[.slice none 0 0, .int .i64 m]).run P w =
      .ok (.slice (some ⟨w.heap.size, 0, none⟩) m (grownCap w m 0 e)) (w.drew.alloc (.cells (Builtin.zeroCells z.cells m ++ Builtin.zeroCells z.cells (grownCap w m 0 e - m)) e)) := by
  have hn : m ≠ 0 := by omega
  have hw : IntKind.i64.wrap (m : Int) = m := wrap_in (by omega) (by omega)
  have h63' : ¬ (9223372036854775807 < (m : Int)) := by omega
  have h48' : ¬ (281474976710656 < Builtin.nextslicecap m 0 * i.bytes) := by rw [nextslicecap_zero h0]; omega
  have h48'' : ¬ (281474976710656 < (m : Int) * (i.bytes : Int)) := by omega
  have hint : (asInt (.int .i64 (m : Int))).run P w = .ok (m : Int) w := rfl
  have hneg : ¬ ((m : Int) < 0) := by omega
  have hmax : max (m : Int) 0 = m := by omega
  have hmz : ¬ (m * i.size = 0) := by have := Nat.mul_pos h0 hs; omega
  simp [Builtin.append_, run_underlying ht, run_underlying hu, sizeOf, typeInfo, zeroValue, hi, hz, hint, hneg, hmax, hw, hn, h63', h48', h48'', hmz, Question.forced, run_firstCells_none, newRow, grownCap]
theorem r_capSlice {e : TypeId} {A : Option Addr} {n c : Nat} [hT : IsSlice P T e] (h1 : ρ s = .slice A n c) : Runs P ρ ⟨d, .call { callee := .builtin .cap, args := #[s], argTypes := #[T] }, ty, pos, af, g⟩ w (.ok (.value (.int .i64 c)) w) :=
  ⟨by simp [execOp, resolve, invoke, builtin, Builtin.cap_, h1, underlying, program, hT.out, goInt, pure, bind, Sem.bind, Sem.run]⟩
/-- append(nil, make([]T, m)...) -/
theorem r_appendZ {α : Type} {D : Flat α} {e U : TypeId} {bytes : Nat} {z : Value} {k : IntKind} {m : Nat} [hT : IsSlice P T e] [hU : IsInt P U k] [hI : TI P e z D.sz bytes] (z0 : α) (S : St w0 w os) (h1 : ρ s = .slice none 0 0) (h2 : ρ t = .int .i64 m)
    (hz : z.cells.toList = D.enc z0) (h0 : 0 < D.sz) (hm : 0 < m) (h63 : m ≤ maxLen) (h48 : m * bytes ≤ 281474976710656) :
    ∃ v' w', Runs P ρ ⟨d, .call { callee := .builtin .append, args := #[s, t], argTypes := #[T, U] }, ty, pos, af, g⟩ w (.ok (.value v') w') ∧ ∃ b cap, v' = .slice (some ⟨b, 0, none⟩) m cap ∧ Below w.heap.size w w' ∧ St w0 w' (os ++ [rowOb D e (.slice (some ⟨b, 0, none⟩) m cap) (List.replicate m z0)]) := by
  obtain ⟨i, hi, hz', hs, hby⟩ := hI.out
  subst hby
  have hzs : z.cells.size = D.sz := by have := congrArg List.length hz; simpa [D.len] using this
  have hm63 : (m : Int) ≤ 9223372036854775807 := by simp only [maxLen] at h63; omega
  have hr := run_append_zeros (P := P) (w := w) T U ty e i z k hT.out hU.out hi hz' m hm (by rw [hs]; exact h0) hm63 h48
  have hb : Below w.heap.size w (w.drew.alloc (.cells (Builtin.zeroCells z.cells m ++ Builtin.zeroCells z.cells (grownCap w m 0 e - m)) e)) := ⟨rfl, rfl, rfl, by simp, fun j hj => Go.heap_alloc_old w.drew _ hj⟩
  refine ⟨_, _, ⟨?_⟩, w.heap.size, grownCap w m 0 e, rfl, hb, S.new hb ?_⟩
  · simp only [execOp, resolve, List.map_toArray, List.map_cons, List.map_nil, h1, h2]
    simp only [invoke, builtin]
    refine (run_bind (a := { target := _, args := _ }) rfl).trans ?_
    exact run_bind hr
  · have hzl : (Builtin.zeroCells z.cells m).toList = fl D (List.replicate m z0) := by
      have := madeCells_fl D z0 z hz h0 m
      rw [← this]; unfold Builtin.zeroCells madeCells; rw [hzs]
    refine ⟨by rw [fl_length, List.length_replicate], .inr ⟨w.heap.size, grownCap w m 0 e, _, by rw [List.length_replicate], Nat.le_refl _, heap_alloc_new w.drew _, by rw [List.length_replicate]; exact grownCap_ge w m 0 e, grownCap_le_maxLen w m 0 e h63, ?_, ?_⟩⟩
    · have := grownCap_ge w m 0 e
      rw [Array.size_append, size_zeroCells, size_zeroCells, hzs, ← Nat.add_mul]; congr 1; omega
    · rw [Array.toList_append, hzl, List.length_replicate]
      have : (fl D (List.replicate m z0)).length = m * D.sz := by rw [fl_length, List.length_replicate]
      rw [← this, List.take_left]
theorem row_none {α : Type} {D : Flat α} {b cap B : Nat} {l : List α} (h : (rowOb D T (.slice (some ⟨b, 0, none⟩) l.length cap) l).ok w B) : (rowOb D T (.slice (some ⟨b, 0, none⟩) 0 cap) ([] : List α)).ok w B := by
  obtain ⟨_, h⟩ := h
  rcases h with ⟨h, _⟩ | ⟨g', cap', cur, hv', hb, hg, hn, hm, hcs, htk⟩
  · cases h
  · cases hv'
    exact ⟨by simp [fl], .inr ⟨b, cap, cur, rfl, hb, hg, Nat.zero_le _, hm, hcs, by simp [fl]⟩⟩
theorem row_store {b o sz m cap i : Nat} {T' : TypeId} {xs vs : List Value} (S : St w0 w os) (hi : os[i]? = some (.row (.slice (some ⟨b, 0, none⟩) m cap) T' sz m xs)) (hfit : o + vs.length ≤ xs.length) (h1c : ∀ u ∈ vs, u.oneCell' = true) :
    ∃ w', (storeCells ⟨b, o, none⟩ vs).run P w = .ok () w' ∧ St w0 w' (os.set i (.row (.slice (some ⟨b, 0, none⟩) m cap) T' sz m (splice xs o vs))) := by
  have hh : w.ownsRow w0.heap.size T' sz (.slice (some ⟨b, 0, none⟩) m cap) m xs := (S.ok _ (mem_of_get hi))
  obtain ⟨hl, h⟩ := hh
  rcases h with ⟨h, _⟩ | ⟨g', cap', cur, hv', hb, hg, hn, hm, hcs, htk⟩
  · cases h
  · cases hv'
    have hcur : xs.length ≤ cur.size := by rw [hl, hcs]; exact Nat.mul_le_mul_right _ hn
    have hst := run_storeCells_at P b o T' vs 0 cur w hg (by simp; omega) h1c
    simp only [Nat.add_zero] at hst
    refine ⟨_, hst, ?_⟩
    refine S.write hi (setRow_grown w b _) ⟨?_, .inr ⟨b, cap, _, rfl, hb, setRow_heap w b _ _ T' (0, 0) hg, hn, hm, ?_, ?_⟩⟩ (.inl rfl)
    · rw [← hl]; simp [splice]; omega
    · rw [← hcs]; simp; omega
    · have hxs : m * sz = xs.length := hl.symm
      rw [hxs] at htk ⊢
      simp only [splice]
      have hq : ∀ k, k < xs.length → cur.toList[k]? = xs[k]? := fun k hk => by
        have h := congrArg (fun l : List Value => l[k]?) htk
        simpa [List.getElem?_take, hk] using h
      apply List.ext_getElem?
      intro j
      simp only [List.getElem?_take, List.getElem?_append, List.length_append, List.length_take, List.getElem?_drop, Array.length_toList]
      have : xs.length ≤ cur.size := hcur
      repeat' split
      all_goals first | rfl | omega | (congr 1; omega) | skip
      · exact hq j (by omega)
      · rw [show o + vs.length + (j - (min o cur.size + vs.length)) = j by omega, show o + vs.length + (j - (min o xs.length + vs.length)) = j by omega]; exact hq j (by omega)
      · exact (List.getElem?_eq_none (by omega)).symm
/-- The first k elements of a row. -/
theorem row_take {α : Type} {D : Flat α} {v : Value} {B k : Nat} {l : List α} (h : (rowOb D T v l).ok w B) (hk : k ≤ l.length) : (rowOb D T (sliceV v 0 k D.sz) (l.take k)).ok w B := by
  obtain ⟨hl, h⟩ := h
  have hlen : (l.take k).length = k := by rw [List.length_take]; omega
  rcases h with ⟨h, h0⟩ | ⟨g', cap', cur, hv', hb, hg, hn, hm, hcs, htk⟩
  · subst h
    have hln : l = [] := List.length_eq_zero_iff.1 h0
    subst hln
    have : k = 0 := by simpa using hk
    subst this
    exact World.ownsRow_nil _ _ _ _
  · subst hv'
    refine ⟨by rw [fl_length], .inr ⟨g', cap', cur, ?_, hb, hg, by rw [hlen]; omega, hm, hcs, ?_⟩⟩
    · unfold sliceV; rw [hlen]; simp [add_zero]
    · rw [hlen]
      have e : fl D l = fl D (l.take k) ++ fl D (l.drop k) := by unfold fl; rw [← List.flatMap_append, List.take_append_drop]
      have := congrArg (List.take (k * D.sz)) htk
      rw [List.take_take, Nat.min_eq_left (Nat.mul_le_mul_right _ hk), e] at this
      rw [this]
      have h2 : (fl D (l.take k)).length = k * D.sz := by rw [fl_length, hlen]
      rw [← h2, List.take_left]
theorem fl_spliceTail {α : Type} {D : Flat α} {l r : List α} {k : Nat} (hk : k + r.length = l.length) : splice (fl D l) (k * D.sz) (fl D r) = fl D (l.take k ++ r) := by
  have hlen : (l.take k).length = k := by rw [List.length_take]; omega
  have e : fl D l = fl D (l.take k) ++ fl D (l.drop k) := by unfold fl; rw [← List.flatMap_append, List.take_append_drop]
  have h2 : (fl D (l.take k)).length = k * D.sz := by rw [fl_length, hlen]
  have h3 : fl D (l.take k ++ r) = fl D (l.take k) ++ fl D r := by simp [fl]
  have h4 : (fl D l).length ≤ k * D.sz + (fl D r).length := by rw [fl_length, fl_length, ← Nat.add_mul, hk]; exact Nat.le_refl _
  unfold splice
  rw [List.drop_eq_nil_of_le h4, List.append_nil, h3, e, ← h2, List.take_left]
/-- The end of a row of the call's own is cleared. -/
theorem r_clearTail {α : Type} {D : Flat α} {e : TypeId} {bytes i k : Nat} {z v : Value} {l : List α} {T' : TypeId} [hT : IsSlice P T e] [hI : TI P e z D.sz bytes] (z0 : α) (S : St w0 w os) (hi : os[i]? = some (rowOb D T' v l)) (hk : k ≤ l.length) (h1 : ρ s = sliceV v k l.length D.sz)
    (hz : z.cells.toList = D.enc z0) (h0 : 0 < D.sz) (h1c : ∀ u ∈ D.enc z0, u.oneCell' = true) :
    ∃ v' w', Runs P ρ ⟨d, .call { callee := .builtin .clear, args := #[s], argTypes := #[T] }, ty, pos, af, g⟩ w (.ok (.value v') w') ∧ St w0 w' (os.set i (rowOb D T' v (l.take k ++ List.replicate (l.length - k) z0))) := by
  obtain ⟨ti, hti, hz', hs, hby⟩ := hI.out
  have hzs : z.cells.size = D.sz := by have := congrArg List.length hz; simpa [D.len] using this
  have how : w.ownsRow w0.heap.size T' D.sz v l.length (fl D l) := S.ok _ (mem_of_get hi)
  have hself : k = l.length → os.set i (rowOb D T' v (l.take k ++ List.replicate (l.length - k) z0)) = os := fun hkl => by
    subst hkl
    have e : l.take l.length ++ List.replicate (l.length - l.length) z0 = l := by simp
    rw [e]
    apply List.ext_getElem?
    intro j
    rw [List.getElem?_set]
    by_cases hj : i = j
    · subst hj; rw [if_pos rfl, hi]; split
      · rfl
      · rename_i hlt; rw [List.getElem?_eq_none (by omega)] at hi; cases hi
    · rw [if_neg hj]
  have wrap : ∀ {x w'}, (Builtin.clear_ #[T] ty #[x]).run P w = .ok (.tuple #[]) w' → ρ s = x → Runs P ρ ⟨d, .call { callee := .builtin .clear, args := #[s], argTypes := #[T] }, ty, pos, af, g⟩ w (.ok (.value (.tuple #[])) w') := fun {x w'} h hx => ⟨by
    simp only [execOp, resolve, List.map_toArray, List.map_cons, List.map_nil, hx]
    simp only [invoke, builtin]
    refine (run_bind (a := { target := _, args := _ }) rfl).trans ?_
    exact run_bind h⟩
  by_cases hkl : k = l.length
  · refine ⟨.tuple #[], w, ?_, by rw [hself hkl]; exact S⟩
    rcases how.2 with ⟨hv, _⟩ | ⟨g', cap', cur, hv', _⟩
    · subst hv
      refine wrap (x := sliceV (.slice none 0 0) k l.length D.sz) ?_ h1
      simp [sliceV, Builtin.clear_, run_underlying' hT.out]
    · subst hv'
      refine wrap (x := sliceV (.slice (some ⟨g', 0, none⟩) l.length cap') k l.length D.sz) ?_ h1
      subst hkl
      by_cases hc : cap' = l.length
      · simp [sliceV, hc, Builtin.clear_, run_underlying' hT.out]
      · simp [sliceV, hc, Builtin.clear_, run_underlying' hT.out]
  · obtain ⟨b, cap, rfl, _, _⟩ := how.form (by omega)
    have hcap : l.length ≤ cap := by
      rcases how.2 with ⟨h, _⟩ | ⟨g', cap', cur, hv', _, _, hn, _⟩
      · cases h
      · cases hv'; exact hn
    have hfit : k * D.sz + (fl D (List.replicate (l.length - k) z0)).length ≤ (fl D l).length := by
      rw [fl_length, fl_length, List.length_replicate, ← Nat.add_mul]; exact Nat.mul_le_mul_right _ (by omega)
    have hone : ∀ u ∈ fl D (List.replicate (l.length - k) z0), u.oneCell' = true := fun u hu => by
      obtain ⟨x, hx, hu⟩ := List.mem_flatMap.1 hu
      rw [List.eq_of_mem_replicate hx] at hu; exact h1c u hu
    obtain ⟨w', hr, S'⟩ := row_store (P := P) (o := k * D.sz) (vs := fl D (List.replicate (l.length - k) z0)) S hi hfit hone
    refine ⟨.tuple #[], w', wrap (x := .slice (some ⟨b, k * D.sz, none⟩) (l.length - k) (cap - k)) ?_ ?_, ?_⟩
    · have hzl : (Builtin.zeroCells z.cells (l.length - k)).toList = fl D (List.replicate (l.length - k) z0) := by
        have := madeCells_fl D z0 z hz h0 (l.length - k)
        rw [← this]; unfold Builtin.zeroCells madeCells; rw [hzs]
      have hne : l.length - k ≠ 0 := by omega
      simp only [Builtin.clear_]
      have h3 : (underlying T).run P w = .ok (.slice e) w := run_underlying' hT.out
      have hzr : (zeroValue e).run P w = .ok z w := run_zeroValue' hti hz'
      refine (run_bind h3).trans ?_
      obtain ⟨n', hn'⟩ : ∃ n', l.length - k = n' + 1 := ⟨l.length - k - 1, by omega⟩
      rw [hn'] at hzl hr ⊢
      simp [hzr, hzl, hr]
    · rw [h1]; unfold sliceV
      have hck : ¬ cap = k := by omega
      simp [hck, add_lit]
    · have hlen : (l.take k ++ List.replicate (l.length - k) z0).length = l.length := by simp; omega
      have hsp := fl_spliceTail (D := D) (l := l) (r := List.replicate (l.length - k) z0) (k := k) (by simp; omega)
      rw [hsp] at S'
      unfold rowOb
      rw [hlen]; exact S'
end
end Go.Gx
