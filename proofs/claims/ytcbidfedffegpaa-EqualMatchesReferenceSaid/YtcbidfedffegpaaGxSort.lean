/-
  slices.SortFunc on a row of the call's own: the kit's contract, told of objects.
-/
import Derived.Test.YtcbidfedffegpaaGxOps3
import Derived.Shelf.SlSortCmp.WholeK
namespace Go.Gx
open Go Go.RowKit
set_option linter.unusedVariables false
set_option linter.unusedSimpArgs false

theorem fl_get {α : Type} [Inhabited α] (D : Flat α) (h0 : 0 < D.sz) : ∀ (l : List α) (t : Nat), t < l.length * D.sz → (fl D l)[t]? = some ((D.enc (l.getD (t / D.sz) default))[t % D.sz]!)
  | [], t, h => by simp at h
  | x :: r, t, h => by
    simp only [fl, List.flatMap_cons]
    by_cases ht : t < D.sz
    · rw [List.getElem?_append_left (by rw [D.len]; exact ht), Nat.div_eq_of_lt ht, Nat.mod_eq_of_lt ht]
      have : t < (D.enc x).length := by rw [D.len]; exact ht
      simp [List.getElem?_eq_getElem this, this]
    · rw [List.getElem?_append_right (by rw [D.len]; omega), D.len]
      have := fl_get D h0 r (t - D.sz) (by simp only [List.length_cons, Nat.add_mul] at h; omega)
      rw [show (List.flatMap D.enc r)[t - D.sz]? = (fl D r)[t - D.sz]? from rfl, this]
      have e : t / D.sz = (t - D.sz) / D.sz + 1 := by
        rw [Nat.div_eq_sub_div h0 (by omega)]
      rw [e, show t % D.sz = (t - D.sz) % D.sz from Nat.mod_eq_sub_mod (by omega)]
      rfl

theorem flatK_list {α : Type} [Inhabited α] (D : Flat α) (h0 : 0 < D.sz) (l : List α) : (Go.Sort.flatK D.enc D.sz l.toArray).toList = fl D l := by
  apply List.ext_getElem?
  intro t
  by_cases ht : t < l.length * D.sz
  · rw [fl_get D h0 l t ht]
    have hd : t / D.sz < l.length := Nat.div_lt_of_lt_mul (by rw [Nat.mul_comm]; exact ht)
    simp [Go.Sort.flatK, ht, hd, List.getD]
  · rw [List.getElem?_eq_none (by simp [Go.Sort.flatK]; omega), List.getElem?_eq_none (by rw [fl_length]; omega)]

theorem grown_sortK {w : World} {g n : Nat} {os : Array Obj} (F : Array Value) : w.grownBy (Go.Sort.grow (Go.Sort.putRow id (Go.Sort.ahead w n) g 0 F) os) (some g) := by
  refine ⟨rfl, rfl, rfl, by simp, fun k hk hne => ?_⟩
  rw [Go.Sort.heap_grow_old _ _ (by simpa using hk)]
  have : g ≠ k := fun e => hne (by rw [e])
  simp [Go.Sort.putRow, Go.Sort.mapBlock, Go.Sort.ahead, Array.getElem?_modify, this]
theorem heap_sortK {w : World} {g n : Nat} {os : Array Obj} {cur : Array Value} {e : TypeId} {fr : Nat × Nat} (F : Array Value) (hb : w.heap[g]? = some (.cells cur e fr)) :
    (Go.Sort.grow (Go.Sort.putRow id (Go.Sort.ahead w n) g 0 F) os).heap[g]? = some (.cells (Go.Sort.putCells id 0 F cur) e fr) := by
  have hg : g < w.heap.size := (Array.getElem?_eq_some_iff.1 hb).1
  rw [Go.Sort.heap_grow_old _ _ (by simpa using hg)]
  simp [Go.Sort.putRow, Go.Sort.mapBlock, Go.Sort.ahead, Array.getElem?_modify, hb, Go.Sort.onCells]
theorem take_putK (cur F : Array Value) (h : F.size ≤ cur.size) : (Go.Sort.putCells id 0 F cur).toList.take F.size = F.toList := by
  apply List.ext_getElem?
  intro j
  by_cases hj : j < F.size
  · rw [List.getElem?_take_of_lt hj, Array.getElem?_toList]
    simp [Go.Sort.putCells, hj, show j < cur.size by omega]
  · rw [List.getElem?_take_eq_none (by omega), List.getElem?_eq_none (by simp; omega)]

theorem sort_row {α : Type} [Inhabited α] {D : Flat α} (h0 : 0 < D.sz) {P : Program} {f : FuncId} {fv : Value} {lt : α → α → Bool} {w0 w : World} {os : List Ob} {i T b cap : Nat} {l : List α} (S : St w0 w os) (hi : os[i]? = some (rowOb D T (.slice (some ⟨b, 0, none⟩) l.length cap) l))
    (hcall : Go.Sort.HoldsK D.enc D.sz w b 0 l.toArray → b < w.heap.size → Calls P f #[.slice (some ⟨b, 0, none⟩) l.toArray.size cap, fv] w fun e w' =>
      e = .returned (.tuple #[]) ∧ ∃ d' n os', Go.Sort.PermIn 0 l.toArray.size l.toArray d' ∧ Go.Sort.SortedIn lt 0 l.toArray.size d' ∧ w' = Go.Proofs.sortWorldK D.enc D.sz w b 0 n d' os') :
    CallsW P f #[.slice (some ⟨b, 0, none⟩) l.length cap, fv] w fun v w' => v = .tuple #[] ∧ ∃ l', l'.Perm l ∧ l'.length = l.length ∧ l'.Pairwise (fun x y => lt y x = false) ∧ St w0 w' (os.set i (rowOb D T (.slice (some ⟨b, 0, none⟩) l.length cap) l')) := by
  have hh : w.ownsRow w0.heap.size T D.sz (.slice (some ⟨b, 0, none⟩) l.length cap) l.length (fl D l) := S.ok _ (mem_of_get hi)
  obtain ⟨hl, h⟩ := hh
  rcases h with ⟨h, _⟩ | ⟨g', cap', cur, hv', hb, hg, hn, hm, hcs, htk⟩
  · cases h
  cases hv'
  have hcur : (fl D l).length ≤ cur.size := by rw [hl, hcs]; exact Nat.mul_le_mul_right _ hn
  have hF : (Go.Sort.flatK D.enc D.sz l.toArray).toList = fl D l := flatK_list D h0 l
  have hH : Go.Sort.HoldsK D.enc D.sz w b 0 l.toArray := by
    intro j hj
    have hj' : j < l.length * D.sz := by simpa using hj
    have h1 : (cur.toList.take (l.length * D.sz))[j]? = (fl D l)[j]? := by rw [htk]
    rw [List.getElem?_take_of_lt hj', ← hF] at h1
    refine ⟨?_, by simp [World.frozen?, hg]⟩
    simp only [World.cell?, hg, Nat.zero_add, Option.isSome_none, Bool.false_eq_true, if_false]
    rw [← Array.getElem?_toList, h1, Array.getElem?_toList, Array.getElem?_eq_getElem hj, getElem!_pos _ j hj]
    rfl
  refine ⟨(Calls.mono (hcall hH (heap_lt hg)) fun e w' ⟨he, d', n, os', hp, hs, hw'⟩ => ?_)⟩
  obtain ⟨hp1, hp2, hp3⟩ := hp
  have hsz : d'.toList.length = l.length := by simpa using hp1
  have hperm : d'.toList.Perm l := by
    have e1 : (d'.extract 0 l.toArray.size).toList = d'.toList := by
      rw [Array.toList_extract, List.extract]
      simp only [Nat.sub_zero, List.drop_zero]
      rw [List.take_of_length_le (by rw [Array.length_toList, hp1]; exact Nat.le_refl _)]
    have e2 : (l.toArray.extract 0 l.toArray.size).toList = l := by simp
    rw [e1, e2] at hp3
    exact hp3
  have hpw : d'.toList.Pairwise (fun x y => lt y x = false) := by
    refine List.pairwise_iff_getElem.2 fun p q hp hq hpq => ?_
    have hq' : q < d'.size := by simpa using hq
    have hp' : p < d'.size := by simpa using hp
    have := hs p q (Nat.zero_le _) hpq (by rw [hp1] at hq'; simpa using hq')
    simpa [hq', hp'] using this
  subst hw'
  refine ⟨_, he, rfl, d'.toList, hperm, hsz, hpw, ?_⟩
  have hF' : (Go.Sort.flatK D.enc D.sz d').toList = fl D d'.toList := by
    have := flatK_list D h0 d'.toList
    simpa using this
  have hFs : (Go.Sort.flatK D.enc D.sz d').size = l.length * D.sz := by
    have := congrArg List.length hF'
    rw [fl_length, hsz] at this
    simpa using this
  refine S.write hi (by exact grown_sortK (n := n) (os := os') (Go.Sort.flatK D.enc D.sz d')) ⟨by rw [fl_length], .inr ⟨b, cap, _, ?_, hb, heap_sortK _ hg, by rw [hsz]; exact hn, hm, by simp [Go.Sort.putCells, hcs], ?_⟩⟩ (.inl rfl)
  · rw [hsz]
  · rw [hsz, ← hF', ← hFs]
    exact take_putK cur _ (by rw [hFs, ← hl]; exact hcur)
end Go.Gx
