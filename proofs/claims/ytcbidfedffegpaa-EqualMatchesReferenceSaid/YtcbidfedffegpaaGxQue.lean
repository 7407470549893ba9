/-
  Queues: slices into a block of the call's own, at any offset; append goes on behind them.
-/
import Derived.Test.YtcbidfedffegpaaGxObs
import Derived.ArgAppend
namespace Go.Gx
open Go Go.RowKit
set_option linter.unusedVariables false
set_option linter.unusedSimpArgs false

/-- Object o holds the cells of the queue l, whose header is v. -/
def Qu {α : Type} (D : Flat α) (T : TypeId) (o : Ob) (v : Value) (l : List α) : Prop :=
  (v = .slice none 0 0 ∧ l = [] ∧ o = .row (.slice none 0 0) T D.sz 0 []) ∨
  ∃ g off cap cur, v = .slice (some ⟨g, off, none⟩) l.length cap ∧ o = .var g T cur ∧ cap ≤ maxLen ∧ l.length ≤ cap ∧ off + cap * D.sz ≤ cur.length ∧ (cur.drop off).take (l.length * D.sz) = fl D l

theorem fl_getQ {α : Type} {D : Flat α} : ∀ {l : List α} {j : Nat} {x : α}, l[j]? = some x → ∀ {i : Nat} {u : Value}, (D.enc x)[i]? = some u → (fl D l)[j * D.sz + i]? = some u := by
  intro l
  induction l with
  | nil => intro j x hj; simp at hj
  | cons y r ih =>
    intro j x hj i u hu
    unfold fl
    rw [List.flatMap_cons]
    cases j with
    | zero =>
      simp at hj; subst hj
      rw [Nat.zero_mul, Nat.zero_add, List.getElem?_append_left (by rcases Nat.lt_or_ge i (D.enc y).length with h | h; exact h; rw [List.getElem?_eq_none h] at hu; cases hu)]; exact hu
    | succ j =>
      rw [List.getElem?_append_right (by rw [D.len, Nat.add_mul]; omega), D.len, show (j + 1) * D.sz + i - D.sz = j * D.sz + i by rw [Nat.add_mul]; omega]
      exact ih (by simpa using hj) hu

theorem Qu.nil {α : Type} (D : Flat α) (T : TypeId) : Qu D T (.row (.slice none 0 0) T D.sz 0 []) (.slice none 0 0) ([] : List α) := .inl ⟨rfl, rfl, rfl⟩
theorem Qu.len {α : Type} {D : Flat α} {T : TypeId} {o : Ob} {v : Value} {l : List α} (h : Qu D T o v l) : ∃ A c, v = .slice A l.length c := by
  rcases h with ⟨rfl, rfl, _⟩ | ⟨g, off, cap, cur, h, _⟩
  · exact ⟨_, _, rfl⟩
  · exact ⟨_, _, h⟩
theorem cur_get {cur : List Value} {off n : Nat} {xs : List Value} (h : (cur.drop off).take n = xs) {j : Nat} {u : Value} (hj : xs[j]? = some u) : cur[off + j]? = some u := by
  rw [← h, List.getElem?_take] at hj
  split at hj
  · rw [List.getElem?_drop] at hj; exact hj
  · cases hj
theorem Qu.cells {α : Type} {D : Flat α} {T : TypeId} {w0 w : World} {os : List Ob} {i : Nat} {g off cap : Nat} {cur : List Value} {l : List α} (S : St w0 w os) (hi : os[i]? = some (.var g T cur)) (h : (cur.drop off).take (l.length * D.sz) = fl D l) :
    ∀ j u, (fl D l)[j]? = some u → w.cell? ((⟨g, off, none⟩ : Addr).add j) = some u := fun j u hj => by
  have := (S.var hi).2.2 (off + j) u (cur_get h hj)
  rw [add_lit, Nat.zero_add] at this
  rw [add_lit]; exact this
theorem Qu.rd {α : Type} {D : Flat α} {T : TypeId} {o : Ob} {v : Value} {l : List α} (h : Qu D T o v l) {w0 w : World} {os : List Ob} {i : Nat} (S : St w0 w os) (hi : os[i]? = some o) : Rd D.ty w v l := by
  rcases h with ⟨rfl, rfl, _⟩ | ⟨g, off, cap, cur, rfl, rfl, hm, hc, hf, ht⟩
  · exact Rd.nil _ _
  · refine ⟨_, _, rfl, hc, .inr ⟨_, rfl, rfl, (S.var hi).1, fun j x hj => ⟨_, rfl, fun k u hu => Qu.cells (cap := cap) S hi ht _ u (fl_getQ hj hu)⟩⟩⟩

theorem take_splice {l vs : List Value} {o m : Nat} (h : o + vs.length ≤ m) (h2 : o + vs.length ≤ l.length) : (splice l o vs).take m = splice (l.take m) o vs := by
  apply List.ext_getElem?
  intro j
  simp only [splice, List.getElem?_take, List.getElem?_append, List.length_append, List.length_take, List.getElem?_drop]
  repeat' split
  all_goals first | rfl | omega | (congr 1; omega) | skip
theorem drop_splice {l vs : List Value} {o off : Nat} (h2 : off + o + vs.length ≤ l.length) : (splice l (off + o) vs).drop off = splice (l.drop off) o vs := by
  apply List.ext_getElem?
  intro j
  simp only [splice, List.getElem?_take, List.getElem?_append, List.length_append, List.length_take, List.getElem?_drop, List.length_drop]
  repeat' split
  all_goals first | rfl | omega | (congr 1; omega) | skip
theorem splice_length {l vs : List Value} {o : Nat} (h : o + vs.length ≤ l.length) : (splice l o vs).length = l.length := by
  simp [splice]; omega
section
variable {P : Program} {ρ : Operand → Value} {w w0 : World} {d : Option Tmp} {ty : TypeId} {pos : String} {af : Array Edge} {g : Option (Nat × Bool)} {T T' : TypeId} {s t : Operand} {os : List Ob}
/-- A field of the first element is set. -/
theorem r_storeQ {α : Type} {D : Flat α} {i off sz : Nat} {o : Ob} {l : List α} {x x' : α} {v u : Value} {ag : Bool} [hS : TF P T ag sz] (S : St w0 w os) (hi : os[i]? = some o) (hq : Qu D T' o v (x :: l)) (h1 : ρ s = .pointer (some ((elemAddr v D.sz 0).add off))) (h2 : ρ t = u)
    (hz : u.cells.size = sz) (hu : D.enc x' = splice (D.enc x) off u.cells.toList) (hf : off + sz ≤ D.sz) (h1c : ∀ c ∈ u.cells.toList, c.oneCell' = true) :
    ∃ w', Runs P ρ ⟨d, .store T s t, ty, pos, af, g⟩ w (.ok .skip w') ∧ ∃ o', St w0 w' (os.set i o') ∧ Qu D T' o' v (x' :: l) := by
  rcases hq with ⟨_, h, _⟩ | ⟨gb, ofs, cap, cur, rfl, rfl, hm, hc, hfit, ht⟩
  · cases h
  · have ha : (elemAddr (.slice (some ⟨gb, ofs, none⟩) (x :: l).length cap) D.sz 0).add off = ⟨gb, ofs + off, none⟩ := by
      show ((⟨gb, ofs, none⟩ : Addr).add _).add _ = _
      rw [add_add, add_lit, Nat.zero_mul, Nat.zero_add]
    rw [ha] at h1
    have hsz : D.sz ≤ (x :: l).length * D.sz := by rw [List.length_cons, Nat.add_mul]; omega
    have hcs : (x :: l).length * D.sz ≤ cap * D.sz := Nat.mul_le_mul_right _ hc
    have hul : u.cells.toList.length = sz := by rw [Array.length_toList, hz]
    obtain ⟨w', hr, S'⟩ := r_storeVar (P := P) (ρ := ρ) (d := d) (ty := ty) (pos := pos) (af := af) (g := g) (T := T) (s := s) (t := t) S hi h1 h2 hz (by omega) h1c
    refine ⟨w', hr, _, S', .inr ⟨gb, ofs, cap, _, rfl, rfl, hm, hc, ?_, ?_⟩⟩
    · rw [splice_length (by omega)]; exact hfit
    · rw [drop_splice (by omega), take_splice (by rw [hul, List.length_cons] at *; omega) (by rw [List.length_drop]; omega)]
      have hlen : (x' :: l).length = (x :: l).length := rfl
      rw [hlen, ht]
      have := fl_setF D x' off u.cells.toList (by rw [hul]; exact hf) (x :: l) 0 x rfl hu
      simpa using this
/-- The first element leaves. -/
theorem r_sliceQ {α : Type} {D : Flat α} {o : Ob} {l : List α} {x : α} {v : Value} {e : TypeId} {ag : Bool} {a : Operand} [hT : IsSlice P T e] [hS : TF P e ag D.sz] (hq : Qu D T' o v (x :: l)) (S : St w0 w os) {i : Nat} (hi : os[i]? = some o) (h1 : ρ s = v) (h2 : ρ a = .int .i64 1) :
    ∃ v' w', Runs P ρ ⟨d, .slice T s (some a) none none, ty, pos, af, g⟩ w (.ok (.value v') w') ∧ (w' = w ∧ Qu D T' o v' l) := by
  have hR := hq.rd S hi
  refine ⟨_, w, r_sliceLo hR h1 h2 (by omega) (by rw [List.length_cons]; omega), rfl, ?_⟩
  rcases hq with ⟨_, h, _⟩ | ⟨gb, ofs, cap, cur, rfl, rfl, hm, hc, hfit, ht⟩
  · cases h
  · rw [List.length_cons] at *
    refine .inr ⟨gb, ofs + (if cap - 1 = 0 then 0 else D.sz), cap - 1, cur, ?_, rfl, by omega, by omega, ?_, ?_⟩
    · simp only [sliceV, Int.toNat_one, Option.map_some]
      by_cases h1 : cap = 1
      · simp [h1, add_lit]
      · have h2 : ¬ cap - 1 = 0 := by omega
        simp [h1, h2, add_lit]
        rfl
    · have : cap * D.sz = (cap - 1) * D.sz + D.sz := by rw [← Nat.succ_mul]; congr 1; omega
      split
      · rename_i h0; rw [h0]; omega
      · omega
    · have e : fl D (x :: l) = D.enc x ++ fl D l := by simp [fl]
      have := congrArg (List.drop D.sz) ht
      rw [e, List.drop_left' (D.len x), List.drop_take, List.drop_drop, Nat.add_mul, Nat.one_mul, Nat.add_sub_cancel] at this
      by_cases h0 : cap - 1 = 0
      · rw [if_pos h0]
        have hl0 : l = [] := List.length_eq_zero_iff.1 (by omega)
        subst hl0; simp [fl]
      · rw [if_neg h0]; exact this
theorem run_append_off {P : Program} {w : World} (t ty e : TypeId) (i : TypeInfo) (ht : P.underlying t = some (.slice e)) (hi : P.info? e = some i)
    (b off sLen sCap : Nat) {T' : TypeId} {cs : List Value} (hh : w.heap[b]? = some (.cells cs.toArray T' (0, 0))) (a : Addr) (m c : Nat) (news : List Value) (hl : news.length = m * i.size) (hnews : ∀ j u, news[j]? = some u → w.cell? (a.add j) = some u) (h1 : ∀ u ∈ news, u.oneCell' = true)
    (hroom : sLen + m ≤ sCap) (hfit : off + sLen * i.size + news.length ≤ cs.length) :
    (Builtin.append_ #[t, t] ty #[.slice (some ⟨b, off, none⟩) sLen sCap, .slice (some a) m c]).run P w = .ok (.slice (some ⟨b, off, none⟩) (sLen + m) sCap) (w.setRow b (splice cs (off + sLen * i.size) news).toArray) := by
  have hfc := run_firstCells_some (P := P) w i.size m a m c news hl hnews
  have hst := run_storeCells_at P b (off + sLen * i.size) T' news 0 cs.toArray w hh (by simpa using hfit) h1
  simp only [Nat.add_zero] at hst
  simp [Builtin.append_, run_underlying ht, sizeOf, typeInfo, hi, Builtin.lenOf, hroom, hfc, Addr.add_lit, hst, splice]
/-- append(v, x) onto a queue. -/
theorem r_appendQ {α : Type} {D : Flat α} {e : TypeId} {bytes i : Nat} {z v v2 : Value} {l : List α} {x : α} {o : Ob} [hT : IsSlice P T e] [hI : TI P e z D.sz bytes] (S : St w0 w os) (hi : os[i]? = some o) (hq : Qu D e o v l) (hR : Rd D.ty w v2 [x])
    (h1 : ρ s = v) (h2 : ρ t = v2) (hz : z.cells.size = D.sz) (h0 : 0 < D.sz) (h1c : ∀ u ∈ D.enc x, u.oneCell' = true) (hb : (l.length + 1) * bytes ≤ 140737488355328) (h63 : l.length + 1 ≤ maxLen) :
    ∃ v' w', Runs P ρ ⟨d, .call { callee := .builtin .append, args := #[s, t], argTypes := #[T, T] }, ty, pos, af, g⟩ w (.ok (.value v') w') ∧ ∃ o', St w0 w' (os.set i o') ∧ Qu D e o' v' (l ++ [x]) := by
  obtain ⟨ti, hti, htz, hts, htb⟩ := hI.out
  subst htb
  have hn1 : fl D [x] = D.enc x := by simp [fl]
  have hfl : fl D (l ++ [x]) = fl D l ++ fl D [x] := by simp [fl]
  have hln : (fl D [x]).length = 1 * D.sz := fl_length D [x]
  rcases hR.cells with ⟨c, _, _, h⟩ | ⟨a, c, rfl, hcs⟩
  · cases h
  have h1n : ∀ u ∈ fl D [x], u.oneCell' = true := by rw [hn1]; exact h1c
  have run_of : ∀ {v' w'}, (Builtin.append_ #[T, T] ty #[v, .slice (some a) [x].length c]).run P w = .ok v' w' → Runs P ρ ⟨d, .call { callee := .builtin .append, args := #[s, t], argTypes := #[T, T] }, ty, pos, af, g⟩ w (.ok (.value v') w') := fun {v' w'} h => ⟨by
    simp only [execOp, resolve, List.map_toArray, List.map_cons, List.map_nil, h1, h2]
    simp only [invoke, builtin]
    refine (run_bind (a := { target := _, args := _ }) rfl).trans ?_
    exact run_bind h⟩
  -- a new block
  have fresh : ∀ {v' w'}, (Builtin.append_ #[T, T] ty #[v, .slice (some a) [x].length c]).run P w = .ok v' w' → w.grownBy w' none → w'.ownsRow w.heap.size e D.sz v' (l.length + 1) (fl D l ++ fl D [x]) →
      ∃ v' w', Runs P ρ ⟨d, .call { callee := .builtin .append, args := #[s, t], argTypes := #[T, T] }, ty, pos, af, g⟩ w (.ok (.value v') w') ∧ ∃ o', St w0 w' (os.set i o') ∧ Qu D e o' v' (l ++ [x]) := fun {v' w'} hr hg ho => by
    rcases ho.2 with ⟨_, h⟩ | ⟨gb, cap, cur, hv, hbg, hgh, hnc, hcm, hcs2, htk⟩
    · omega
    refine ⟨v', w', run_of hr, .var gb e cur.toList, S.write hi ⟨hg.os, hg.tape, hg.output, hg.size, fun k hk _ => hg.block k hk (by simp)⟩ ⟨Nat.le_trans S.below.size hbg, by simpa using hgh⟩ (.inr (.inr ⟨gb, rfl, hbg⟩)), .inr ⟨gb, 0, cap, cur.toList, ?_, rfl, hcm, ?_, ?_, ?_⟩⟩
    · rw [hv, List.length_append]; rfl
    · rw [List.length_append]; exact hnc
    · rw [Array.length_toList, hcs2]; omega
    · rw [List.drop_zero, hfl, List.length_append]; exact htk
  rcases hq with ⟨hv, hl, ho⟩ | ⟨gb, ofs, cap, cur, hv, ho, hm, hc, hfit, ht⟩
  · subst hv hl
    obtain ⟨v', w', hr, ho, hgr, _⟩ := run_append_own (P := P) w w.heap.size T ty e ti z D.sz ti.bytes hT.out hti htz hts rfl hz h0 (.slice none 0 0) 0 [] (World.ownsRow_nil _ _ _ _) a [x].length c (fl D [x]) hln hcs h1n (by simpa using h63) (by simpa using hb) (Nat.le_refl _)
    exact fresh hr hgr (by simpa [fl] using ho)
  · subst hv ho
    by_cases hroom : l.length + 1 ≤ cap
    · have hle : (l.length + 1) * D.sz ≤ cap * D.sz := Nat.mul_le_mul_right _ hroom
      rw [Nat.add_mul] at hle
      have hh := (S.ok _ (mem_of_get hi))
      have hr := run_append_off (P := P) (w := w) T ty e ti hT.out hti gb ofs l.length cap hh.2 a [x].length c (fl D [x]) (by rw [hts]; exact hln) hcs h1n hroom (by rw [hln, hts]; omega)
      rw [hts] at hr
      refine ⟨_, _, run_of hr, .var gb e (splice cur (ofs + l.length * D.sz) (fl D [x])), S.write hi (setRow_grown w gb _) ⟨hh.1, setRow_heap w gb _ _ e (0, 0) hh.2⟩ (.inl rfl), .inr ⟨gb, ofs, cap, _, by rw [List.length_append], rfl, hm, ?_, ?_, ?_⟩⟩
      · rw [List.length_append]; exact hroom
      · rw [splice_length (by rw [hln]; omega)]; exact hfit
      · rw [drop_splice (by rw [hln]; omega), List.length_append, Nat.add_mul, show [x].length * D.sz = (fl D [x]).length from hln.symm]
        have hlen : ((cur.drop ofs).take (l.length * D.sz)).length = l.length * D.sz := by rw [ht, fl_length]
        unfold splice
        rw [hfl, ht, ← fl_length D l, ← List.length_append, List.take_left]
    · have holds := Qu.cells (cap := cap) S hi ht
      obtain ⟨v', w', hr, ho, hgr⟩ := run_append_arg_grows (P := P) w T ty e ti z D.sz ti.bytes hT.out hti htz hts rfl hz h0 ⟨gb, ofs, none⟩ l.length cap (fl D l) (fl_length D l) holds a [x].length c (fl D [x]) hln hcs (by show cap < l.length + 1; omega) h63 hb
      exact fresh hr hgr ho
end
end Go.Gx
