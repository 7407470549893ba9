/-
  A row's arguments opened: what the reading of an argument says of its value and its cells.
-/
import Derived.Test.YteplelijhkmbkaaDoorGxEnd
import Derived.WalkKit
import Derived.ProofKit
import Derived.OpenShut
import Derived.ShutString
import Derived.ChangeOld
import Derived.Below
import Derived.SizedLaws
import Derived.Deep.Slices
namespace Go.Gx
open Go Go.RowKit Go.WideShapes Go.ChangeShapes Go.Deep
set_option linter.unusedVariables false
set_option linter.unusedSimpArgs false

def inI (x : Int) : Prop := -9223372036854775808 ≤ x ∧ x ≤ 9223372036854775807
def inK (k : IntKind) (x : Int) : Prop := k.min ≤ x ∧ x ≤ k.max
theorem inK_i64 {x : Int} (h : inK .i64 x) : inI x := by
  unfold inK at h; unfold inI; simp [IntKind.min, IntKind.max, IntKind.signed, IntKind.bits] at h; omega
theorem inK_u8 {x : Int} (h : inK .u8 x) : 0 ≤ x ∧ x ≤ 255 := by
  unfold inK at h; simp [IntKind.min, IntKind.max, IntKind.signed, IntKind.bits] at h; omega
theorem inK_u64 {x : Int} (h : inK .u64 x) : 0 ≤ x ∧ x ≤ 18446744073709551615 := by
  unfold inK at h; simp [IntKind.min, IntKind.max, IntKind.signed, IntKind.bits] at h; omega
theorem wf_inK {k : IntKind} {n : Int} (h : (Lit.int k n).wf = true) : inK k n := by
  simpa [Lit.wf, inK] using h

/-- Some reading of these cells, as of type t. -/
def TR {H : Type} (enc : TypeId × Value → H) (P : Program) (w : World) (t : TypeId) (cs : List Value) : Prop := ∃ fuel x, DataW.trod enc P w 0 (fun _ => true) true fuel t cs = some x

section
variable {H : Type} {enc : TypeId × Value → H} {P : Program} {w : World} {t : TypeId} {cs : List Value}

theorem TR.int {k : IntKind} (ht : P.underlying t = some (.int k)) (h : TR enc P w t cs) : ∃ n, cs = [.int k n] ∧ inK k n := by
  obtain ⟨fuel, x, h⟩ := h
  obtain ⟨n, hc, _, hw⟩ := DataW.trod_int ht h
  exact ⟨n, hc, wf_inK hw⟩
theorem TR.int64 (ht : P.underlying t = some (.int .i64)) (h : TR enc P w t cs) : ∃ n, cs = [.int .i64 n] ∧ inI n :=
  let ⟨n, hc, hw⟩ := h.int ht; ⟨n, hc, inK_i64 hw⟩
theorem TR.bool (ht : P.underlying t = some .bool) (h : TR enc P w t cs) : ∃ n, cs = [.bool n] ∧ True := by
  obtain ⟨fuel, x, h⟩ := h
  obtain ⟨n, hc, _⟩ := DataW.trod_bool ht h
  exact ⟨n, hc, trivial⟩
theorem TR.str (ht : P.underlying t = some .string) (h : TR enc P w t cs) : ∃ n, cs = [.string n] ∧ n.size ≤ maxLen := by
  obtain ⟨fuel, x, h⟩ := h
  obtain ⟨n, hc, _, hs⟩ := DataW.trod_string ht h
  exact ⟨n, hc, hs⟩
theorem TR.struct {fs : Array Field} (ht : P.underlying t = some (.struct fs)) (h : TR enc P w t cs) :
    cs.length = P.cellsOf t ∧ ∀ (i : Nat) (f : Field), fs[i]? = some f → TR enc P w f.type ((cs.drop f.offset).take (P.cellsOf f.type)) := by
  obtain ⟨fuel, x, h⟩ := h
  obtain ⟨xs, n, _, _, hl, hn, hf⟩ := DataW.trod_struct ht h
  refine ⟨hl, fun i f hi => ?_⟩
  have hlt : i < xs.length := by rw [hn]; exact (Array.getElem?_eq_some_iff.1 hi).1
  exact ⟨n, xs[i], by rw [hf i f hi, List.getElem?_eq_getElem hlt]⟩
theorem TR.arr {n : Nat} {e : TypeId} (ht : P.underlying t = some (.array n e)) (h : TR enc P w t cs) :
    cs.length = P.cellsOf t ∧ ∀ i, i < n → TR enc P w e ((cs.drop (i * P.cellsOf e)).take (P.cellsOf e)) := by
  obtain ⟨fuel, x, h⟩ := h
  obtain ⟨xs, m, _, _, hl, hn, hf⟩ := DataW.trod_array ht h
  refine ⟨hl, fun i hi => ?_⟩
  exact ⟨m, xs[i], by rw [hf i hi, List.getElem?_eq_getElem (by omega)]⟩

theorem join_cons {cs a b : List Value} {o n n' : Nat} (hn : n' = n) (h1 : (cs.drop o).take n' = a) (h2 : cs.drop (o + n) = b) : cs.drop o = a ++ b := by
  subst hn; rw [← h1, ← h2, ← List.drop_drop, List.take_append_drop]
theorem join_nil {cs : List Value} {n n' : Nat} (hl : cs.length = n') (hn : n' = n) : cs.drop n = [] := List.drop_eq_nil_of_le (by omega)

/-- A slice, opened element by element. -/
theorem TR.slice {α : Type} {D : Ty α} {ok : α → Prop} {e : TypeId} (ht : P.underlying t = some (.slice e)) (hc : P.cellsOf e = D.sz) (h0 : 0 < D.sz) (ho : ∀ cs, TR enc P w e cs → ∃ a, D.R w a cs ∧ ok a) (h : TR enc P w t cs) :
    ∃ v l, cs = [v] ∧ Rd D w v l ∧ (∀ x ∈ l, ok x) ∧ l.length ≤ maxLen := by
  obtain ⟨fuel, x, h⟩ := h
  rcases open_slice ht h with ⟨rfl, _⟩ | ⟨a, len, cap, m, n, Dd, Pl, rfl, _, hl, hm, hmm, hxe, hx⟩
  · exact ⟨_, [], rfl, Rd.nil D w, by simp, by simp [maxLen]⟩
  · have hcap : m = cap := by rw [hmm]; simp
    have hel : ∀ i, i < len → ∃ (y : α × List Value), w.cells? 0 (a.add (i * D.sz)) D.sz = some y.2 ∧ D.R w y.1 y.2 ∧ ok y.1 := fun i hi => by
      obtain ⟨cs', h1, h2⟩ := hx i (by omega)
      obtain ⟨z, hz1, hz2⟩ := ho cs' ⟨_, _, h2⟩
      exact ⟨(z, cs'), by rw [← hc]; exact h1, hz1, hz2⟩
    have key : ∃ l : List (α × List Value), l.length = len ∧ ∀ i y, l[i]? = some y → w.cells? 0 (a.add (i * D.sz)) D.sz = some y.2 ∧ D.R w y.1 y.2 ∧ ok y.1 := by
      clear hx hmm hm hl h hxe hcap
      induction len with
      | zero => exact ⟨[], rfl, by simp⟩
      | succ k ih =>
        obtain ⟨l, hlen, hall⟩ := ih (fun i hi => hel i (by omega))
        obtain ⟨y, hy⟩ := hel k (by omega)
        refine ⟨l ++ [y], by simp [hlen], fun i z hz => ?_⟩
        by_cases hi : i < k
        · rw [List.getElem?_append_left (by omega)] at hz; exact hall i z hz
        · rw [List.getElem?_append_right (by omega)] at hz
          have : i - l.length = 0 := by
            rcases Nat.eq_zero_or_pos (i - l.length) with h | h
            · exact h
            · rw [List.getElem?_eq_none (by simp; omega)] at hz; cases hz
          rw [this] at hz
          simp at hz
          subst hz
          rw [show i = k by omega]; exact hy
    obtain ⟨l, hlen, hall⟩ := key
    refine ⟨_, l.map (·.1), rfl, ⟨some a, cap, by simp [hlen], by simp [hlen]; omega, ?_⟩, fun x hx => ?_, by simp [hlen]; omega⟩
    · cases l with
      | nil => exact .inl ⟨rfl, fun h => by cases h⟩
      | cons y0 l' =>
        refine .inr ⟨a, rfl, ?_⟩
        have h00 := (hall 0 y0 rfl).1
        obtain ⟨_, hl0, hc0⟩ := World.cells?_some h00
        have c0 := hc0 0 h0
        rw [add_add] at c0
        simp only [Nat.zero_mul, Nat.add_zero, add_zero] at c0
        have hsome : ∃ u, w.cell? a = some u := by
          rw [c0]; exact ⟨_, List.getElem?_eq_getElem (by omega)⟩
        obtain ⟨u, hu⟩ := hsome
        have hspot : a.spot = none := by
          unfold World.cell? at hu
          split at hu
          · split at hu
            · cases hu
            · rename_i hns; cases hsp : a.spot with
              | none => rfl
              | some _ => simp [hsp] at hns
          · cases hu
        have hblk : a.block < w.heap.size := by
          unfold World.cell? at hu
          cases hh : w.heap[a.block]? with
          | none => rw [hh] at hu; cases hu
          | some o => exact (Array.getElem?_eq_some_iff.1 hh).1
        refine ⟨hspot, hblk, fun j x hj => ?_⟩
        rw [List.getElem?_map] at hj
        cases hy : (y0 :: l')[j]? with
        | none => rw [hy] at hj; cases hj
        | some y =>
          rw [hy] at hj
          simp at hj
          obtain ⟨h1, h2, _⟩ := hall j y hy
          obtain ⟨_, hl1, hcs⟩ := World.cells?_some h1
          refine ⟨y.2, by rw [← hj]; exact h2, fun i u hu => ?_⟩
          have hi : i < D.sz := by rw [← hl1]; exact (List.getElem?_eq_some_iff.1 hu).1
          rw [← add_add, hcs i hi, hu]
    · obtain ⟨y, hy, rfl⟩ := List.mem_map.1 hx
      obtain ⟨i, hi⟩ := List.getElem?_of_mem hy
      exact (hall i y hi).2.2

/-! ### Arguments -/
variable {v : Value} {d : DataW H} {p : List MemPlace}
theorem TR.of (h : DataW.Trod enc P w 0 (fun _ => true) true t v d p) : TR enc P w t v.cells.toList := let ⟨f, h⟩ := h; ⟨f, _, h⟩
theorem p_int {k : IntKind} (ht : P.underlying t = some (.int k)) (hv : Value.okWide P w .any 0 t v) (h : DataW.Trod enc P w 0 (fun _ => true) true t v d p) : ∃ n, v = .int k n ∧ inK k n :=
  let ⟨n, hn, _, _, hw⟩ := open_int ht hv h; ⟨n, hn, wf_inK hw⟩
theorem p_int64 (ht : P.underlying t = some (.int .i64)) (hv : Value.okWide P w .any 0 t v) (h : DataW.Trod enc P w 0 (fun _ => true) true t v d p) : ∃ n, v = .int .i64 n ∧ inI n :=
  let ⟨n, hn, hw⟩ := p_int ht hv h; ⟨n, hn, inK_i64 hw⟩
theorem p_bool (ht : P.underlying t = some .bool) (hv : Value.okWide P w .any 0 t v) : ∃ n, v = .bool n := okWide_bool ht hv
theorem p_str (ht : P.underlying t = some .string) (hv : Value.okWide P w .any 0 t v) (h : DataW.Trod enc P w 0 (fun _ => true) true t v d p) : ∃ n, v = .string n ∧ n.size ≤ maxLen := by
  obtain ⟨n, rfl⟩ := okWide_string ht hv
  obtain ⟨m, hm, hs⟩ := (TR.of h).str ht
  simp [Value.cells] at hm
  subst hm
  exact ⟨_, rfl, hs⟩
theorem p_struct {fs : Array Field} (ht : P.underlying t = some (.struct fs)) (hv : Value.okWide P w .any 0 t v) (h : DataW.Trod enc P w 0 (fun _ => true) true t v d p) : ∃ cs : List Value, v = .agg cs.toArray ∧ TR enc P w t cs := by
  obtain ⟨cs, rfl, _⟩ := okWide_struct ht hv
  exact ⟨cs.toList, by simp, TR.of h⟩
theorem p_arr {n : Nat} {e : TypeId} (ht : P.underlying t = some (.array n e)) (hv : Value.okWide P w .any 0 t v) (h : DataW.Trod enc P w 0 (fun _ => true) true t v d p) : ∃ cs : List Value, v = .agg cs.toArray ∧ TR enc P w t cs := by
  simp only [Value.okWide, ht] at hv
  obtain ⟨cs, rfl, _⟩ := hv
  exact ⟨cs.toList, by simp, TR.of h⟩
theorem p_slice {α : Type} {D : Ty α} {ok : α → Prop} {e : TypeId} (ht : P.underlying t = some (.slice e)) (hv : Value.okWide P w .any 0 t v) (h : DataW.Trod enc P w 0 (fun _ => true) true t v d p)
    (hc : P.cellsOf e = D.sz) (h0 : 0 < D.sz) (ho : ∀ cs, TR enc P w e cs → ∃ a, D.R w a cs ∧ ok a) : ∃ l, Rd D w v l ∧ (∀ x ∈ l, ok x) ∧ l.length ≤ maxLen := by
  obtain ⟨a, len, cap, rfl⟩ := okWide_slice ht hv
  obtain ⟨u, l, hu, h1, h2, h3⟩ := (TR.of h).slice ht hc h0 ho
  simp [Value.cells] at hu
  subst hu
  exact ⟨l, h1, h2, h3⟩
theorem p_lt (h : DataW.Trod enc P w 0 (fun _ => true) true t v d p) : ∀ x ∈ p, x.block < w.heap.size := by
  obtain ⟨m, hm⟩ := h; exact DataW.trod_lt m _ _ _ hm
end
theorem TR.same {H : Type} {enc : TypeId × Value → H} {P : Program} {w : World} {t t' : TypeId} {cs : List Value} (hu : P.underlying t = P.underlying t') (hc : P.cellsOf t = P.cellsOf t') (h : TR enc P w t cs) : TR enc P w t' cs := by
  obtain ⟨fuel, x, h⟩ := h
  cases fuel with
  | zero => simp [DataW.trod] at h
  | succ f =>
    refine ⟨f + 1, ?_⟩
    unfold DataW.trod at h ⊢
    rw [hu, hc] at h
    generalize P.underlying t' = u at h ⊢
    split at h
    all_goals first
      | exact ⟨_, h⟩
      | skip
    all_goals simp
end Go.Gx
