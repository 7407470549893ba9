import Derived.Test.YtaoicaldhllbfaaM
namespace Go.Proofs.Ytaoicaldhllbfaa
open Go Go.Gx Go.RowKit
set_option linter.unusedVariables false
set_option linter.unusedSimpArgs false

theorem nth_mem {α : Type} [Inhabited α] {l : List α} {i : Int} (h0 : 0 ≤ i) (h : i < l.length) : nth l i ∈ l := List.mem_of_getElem? (nth_get h0 h)
theorem mem_nth {α : Type} [Inhabited α] {l : List α} {x : α} (h : x ∈ l) : ∃ i : Int, 0 ≤ i ∧ i < l.length ∧ x = nth l i := by
  obtain ⟨n, hn⟩ := List.getElem?_of_mem h
  have hlt := (List.getElem?_eq_some_iff.1 hn).1
  refine ⟨n, by omega, by omega, ?_⟩
  have := nth_get (l := l) (i := n) (by omega) (by omega)
  simp only [Int.toNat_natCast] at this
  rw [hn] at this
  exact Option.some.inj this
theorem valid_snoc {l : List GRequest} {x : GRequest} (hv : validReqs l = true) (hx : okR x) (hle : ∀ y ∈ l, y.At ≤ x.At) (hl : l.length < 24) : validReqs (l ++ [x]) = true := by
  unfold validReqs at *
  simp only [Bool.and_eq_true, decide_eq_true_eq, Bool.not_eq_true'] at *
  obtain ⟨⟨h1, h2⟩, h3⟩ := hv
  refine ⟨⟨by simp; omega, ?_⟩, ?_⟩
  · rw [List.any_append, h2]; simp [okR_bad hx]
  · rw [sortedReq_iff] at *
    intro j j0 j1
    simp only [List.length_append, List.length_cons, List.length_nil] at j1
    by_cases e : j + 1 < l.length
    · rw [nth_append_left (by omega) e, nth_append_left j0 (by omega)]; exact h3 j j0 e
    · rw [nth_append_last (by omega), nth_append_left j0 (by omega), cmpI_lt]
      have := hle _ (nth_mem (l := l) (i := j) j0 (by omega))
      omega
theorem sorted_le {l : List GRequest} (hv : validReqs l = true) : ∀ (n : Nat) {i : Int}, 0 ≤ i → i + n < l.length → (nth l i).At ≤ (nth l (i + n)).At := by
  have h3 : sortedReq l = true := by
    unfold validReqs at hv
    simp only [Bool.and_eq_true] at hv
    exact hv.2
  rw [sortedReq_iff] at h3
  intro n
  induction n with
  | zero => intro i h0 h; simp
  | succ n ih =>
    intro i h0 h
    have a := ih h0 (by omega)
    have b := h3 (i + n) (by omega) (by omega)
    rw [cmpI_lt] at b
    rw [show i + ((n + 1 : Nat) : Int) = i + n + 1 by omega]
    omega
theorem valid_take {l : List GRequest} (hv : validReqs l = true) (k : Nat) (hk : k ≤ l.length) : validReqs (l.take k) = true := by
  have hok := (valid_ok hv).2
  have hlen := (valid_ok hv).1
  induction k with
  | zero => rfl
  | succ k ih =>
    have e := take_snoc (l := l) (i := (k : Int)) (by omega) (by omega)
    rw [show ((k : Int) + 1).toNat = k + 1 by omega, Int.toNat_natCast] at e
    rw [e]
    refine valid_snoc (ih (by omega)) (hok _ (nth_mem (by omega) (by omega))) (fun y hy => ?_) (by rw [List.length_take]; omega)
    obtain ⟨j, j0, j1, rfl⟩ := mem_nth hy
    rw [List.length_take] at j1
    rw [nth_take j0 (by omega)]
    have := sorted_le hv (k - j.toNat) j0 (by omega)
    rwa [show j + ((k - j.toNat : Nat) : Int) = k by omega] at this
theorem runL_take {l : List GRequest} {k : Nat} (hk : k ≤ l.length) : (runL (l.take k)).2 = (runL l).2.take k := by
  obtain ⟨r, hr⟩ := runL_append (l.take k) (l.drop k)
  rw [List.take_append_drop] at hr
  rw [hr, List.take_left' (by rw [runL_len, List.length_take]; omega)]
/-- What the requests that are kept come to. -/
theorem keep_step {l som : List GRequest} {wnt : List GLease} {i : Int} (h0 : 0 ≤ i) (h : i < l.length) (hr : runL som = ((runL (l.take i.toNat)).1, wnt)) : runL (som ++ [nth l i]) = ((runL (l.take (i + 1).toNat)).1, wnt ++ [nth (runL l).2 i]) := by
  rw [runL_snoc, hr, runL_nth h0 h, take_snoc h0 h, runL_snoc]
  unfold stepL
  split <;> rfl
theorem drop_step {l : List GRequest} (hok : ∀ x ∈ l, okR x) {i : Int} (h0 : 0 ≤ i) (h : i < l.length) (he : (nth (runL l).2 i).Epoch ≤ 0) : (runL (l.take (i + 1).toNat)).1 = (runL (l.take i.toNat)).1 := by
  have hq := okL_run hok h0 (by omega : i ≤ l.length)
  rw [runL_nth h0 h] at he
  rw [take_snoc h0 h, runL_snoc]
  unfold stepL
  split
  · rfl
  · rename_i hs
    rw [if_neg hs] at he
    unfold okL at hq
    simp only [grantL] at he
    omega
end Go.Proofs.Ytaoicaldhllbfaa
