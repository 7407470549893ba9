/-
  append onto a row that is used again: what it holds comes back when the longer one is done with.
-/
import Derived.Test.YteplelijhkmbkaaDoorGxObs
import Derived.Laws.OwnMore
namespace Go.Gx
open Go Go.RowKit
set_option linter.unusedVariables false
set_option linter.unusedSimpArgs false

theorem below_of_grown {w w' : World} (h : w.grownBy w' none) : Below w.heap.size w w' := ⟨h.os, h.tape, h.output, h.size, fun k hk => h.block k hk (by simp)⟩
/-- Another object of the same block in the first one's place. -/
theorem St.headEq {w0 w : World} {o o' : Ob} {ex : List Ob} (S : St w0 w (o :: ex)) (hb : o'.blk = o.blk) (ho : o'.ok w w0.heap.size) : St w0 w (o' :: ex) :=
  ⟨S.below, fun x hx => by
    rcases List.mem_cons.1 hx with rfl | hx
    · exact ho
    · exact S.ok x (List.mem_cons_of_mem _ hx), by
    have h := S.apart
    rw [List.pairwise_cons] at h ⊢
    refine ⟨fun b hbm => ?_, h.2⟩
    rw [hb]; exact h.1 b hbm⟩
section
variable {P : Program} {ρ : Operand → Value} {w w0 : World} {d : Option Tmp} {ty : TypeId} {pos : String} {af : Array Edge} {g : Option (Nat × Bool)} {T T' : TypeId} {s t : Operand} {ex : List Ob}
theorem r_appendKeep {α : Type} {D : Flat α} {e : TypeId} {bytes : Nat} {z v v2 : Value} {l l2 : List α} [hT : IsSlice P T e] [hI : TI P e z D.sz bytes] (S : St w0 w (rowOb D e v l :: ex)) (hR : Rd D.ty w v2 l2) (hne : l2 ≠ [])
    (h1 : ρ s = v) (h2 : ρ t = v2) (hz : z.cells.size = D.sz) (h0 : 0 < D.sz) (h1c : ∀ x, ∀ u ∈ D.enc x, u.oneCell' = true)
    (hb : (l.length + l2.length) * bytes ≤ 140737488355328) (h63 : l.length + l2.length ≤ maxLen) :
    ∃ v' w', Runs P ρ ⟨d, .call { callee := .builtin .append, args := #[s, t], argTypes := #[T, T] }, ty, pos, af, g⟩ w (.ok (.value v') w') ∧
      ∃ old, St w0 w' (rowOb D e v' (l ++ l2) :: (old ++ ex)) ∧ ∀ w2 ex2, St w0 w2 (rowOb D e v' (l ++ l2) :: (old ++ ex2)) → St w0 w2 (rowOb D e v l :: ex2) := by
  have how : w.ownsRow w0.heap.size e D.sz v l.length (fl D l) := S.ok _ (List.mem_cons_self ..)
  obtain ⟨ti, hti, htz, hts, htb⟩ := hI.out
  subst htb
  have hfl : fl D (l ++ l2) = fl D l ++ fl D l2 := by simp [fl]
  have hln : (fl D l2).length = l2.length * D.sz := fl_length D l2
  rcases hR.cells with ⟨c, rfl, rfl, rfl⟩ | ⟨a, c, rfl, hcs⟩
  · exact absurd rfl hne
  · have h1n : ∀ u ∈ fl D l2, u.oneCell' = true := fun u hu => by
      obtain ⟨x, _, hx⟩ := List.mem_flatMap.1 hu
      exact h1c x u hx
    have run_of : ∀ {v' w'}, (Builtin.append_ #[T, T] ty #[v, .slice (some a) l2.length c]).run P w = .ok v' w' → Runs P ρ ⟨d, .call { callee := .builtin .append, args := #[s, t], argTypes := #[T, T] }, ty, pos, af, g⟩ w (.ok (.value v') w') := fun {v' w'} h => ⟨by
      simp only [execOp, resolve, List.map_toArray, List.map_cons, List.map_nil, h1, h2]
      simp only [invoke, builtin]
      refine (run_bind (a := { target := _, args := _ }) rfl).trans ?_
      exact run_bind h⟩
    -- a new block
    have fresh : ∀ {v' w'}, (Builtin.append_ #[T, T] ty #[v, .slice (some a) l2.length c]).run P w = .ok v' w' → Below w.heap.size w w' → w'.ownsRow w.heap.size e D.sz v' (l.length + l2.length) (fl D l ++ fl D l2) →
        ∃ v' w', Runs P ρ ⟨d, .call { callee := .builtin .append, args := #[s, t], argTypes := #[T, T] }, ty, pos, af, g⟩ w (.ok (.value v') w') ∧
          ∃ old, St w0 w' (rowOb D e v' (l ++ l2) :: (old ++ ex)) ∧ ∀ w2 ex2, St w0 w2 (rowOb D e v' (l ++ l2) :: (old ++ ex2)) → St w0 w2 (rowOb D e v l :: ex2) := fun {v' w'} hr hb ho => by
      refine ⟨v', w', run_of hr, [rowOb D e v l], (S.new (o := rowOb D e v' (l ++ l2)) hb ?_).front, fun w2 ex2 S2 => S2.tail⟩
      show World.ownsRow _ _ _ _ _ _ _
      rw [hfl, List.length_append]; exact ho
    rcases how.2 with ⟨hv, hn⟩ | ⟨gb, cap, cur, hv, hbg, hg, hnc, hcm, hcs2, htk⟩
    · have hl : l = [] := List.length_eq_zero_iff.1 hn
      subst hl
      subst hv
      obtain ⟨v', w', hr, ho, hgr, _⟩ := run_append_own (P := P) w w.heap.size T ty e ti z D.sz ti.bytes hT.out hti htz hts rfl hz h0 (.slice none 0 0) 0 [] (World.ownsRow_nil _ _ _ _) a l2.length c (fl D l2) hln hcs h1n (by simpa using h63) (by simpa using hb) (Nat.le_refl _)
      exact fresh hr (below_of_grown hgr) (by simpa [fl] using ho)
    · subst hv
      by_cases hroom : l.length + l2.length ≤ cap
      · obtain ⟨w', hr, ho, hgr⟩ := run_append_fits (P := P) w w0.heap.size T ty e ti D.sz hT.out hti hts gb l.length cap (fl D l) how a l2.length c (fl D l2) hln hcs h1n hroom
        have S' : St w0 w' (rowOb D e (.slice (some ⟨gb, 0, none⟩) (l.length + l2.length) cap) (l ++ l2) :: ex) := by
          refine S.write (i := 0) rfl hgr ?_ (.inl rfl)
          show World.ownsRow _ _ _ _ _ _ _
          rw [hfl, List.length_append]; exact ho
        refine ⟨_, w', run_of hr, [], S', fun w2 ex2 S2 => S2.headEq rfl ?_⟩
        have ho2 : w2.ownsRow w0.heap.size e D.sz (.slice (some ⟨gb, 0, none⟩) (l.length + l2.length) cap) (l ++ l2).length (fl D (l ++ l2)) := S2.ok _ (List.mem_cons_self ..)
        rcases ho2.2 with ⟨h, _⟩ | ⟨g2, cap2, cur2, h, hb2, hg2, hn2, hm2, hs2, ht2⟩
        · simp at h
        · simp only [Value.slice.injEq, Option.some.injEq, Addr.mk.injEq, and_true, true_and] at h
          obtain ⟨rfl, _, rfl⟩ := h
          refine ⟨fl_length D l, .inr ⟨gb, cap, cur2, rfl, hb2, hg2, by omega, hm2, hs2, ?_⟩⟩
          have := congrArg (List.take (l.length * D.sz)) ht2
          rw [List.take_take, hfl, ← fl_length D l, List.take_left, List.length_append, fl_length D l, Nat.min_eq_left (Nat.mul_le_mul_right _ (by omega))] at this
          exact this
      · have holds : ∀ j u, (fl D l)[j]? = some u → w.cell? ((⟨gb, 0, none⟩ : Addr).add j) = some u := how.cells (g := gb) rfl
        have hr := run_append_grow (P := P) w T ty e ti z hT.out hti htz ⟨gb, 0, none⟩ l.length cap (fl D l) (by rw [hts]; exact fl_length D l) holds a l2.length c (fl D l2) (by rw [hts]; exact hln) hcs (by omega) (by simp only [maxLen] at h63; omega) (growslice_fits (by omega) hb)
        have hbl : ∀ o, Below w.heap.size w (w.drew.alloc o) := fun o => ⟨rfl, rfl, rfl, by simp, fun k hk => heap_alloc_old w.drew o hk⟩
        refine fresh hr (hbl _) ⟨by rw [List.length_append, fl_length, fl_length, Nat.add_mul], .inr ⟨w.heap.size, _, _, rfl, Nat.le_refl _, heap_alloc_new w.drew _, grownCap_ge _ _ _ _, grownCap_le_maxLen _ _ _ _ h63, ?_, ?_⟩⟩
        · have hge := grownCap_ge w (l.length + l2.length) cap e
          simp only [Array.size_append, List.size_toArray, size_zeroCells, hz, fl_length, ← Nat.add_mul]
          congr 1
          omega
        · have e1 : (l.length + l2.length) * D.sz = (fl D l ++ fl D l2).length := by rw [List.length_append, fl_length, fl_length, Nat.add_mul]
          simp only [Array.toList_append]
          rw [e1]
          exact List.take_left
end
end Go.Gx
