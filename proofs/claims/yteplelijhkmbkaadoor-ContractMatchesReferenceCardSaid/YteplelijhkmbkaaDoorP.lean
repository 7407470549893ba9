import Derived.Test.YteplelijhkmbkaaDoorN
import Derived.Test.YteplelijhkmbkaaDoorE
namespace Go.Proofs.YteplelijhkmbkaaDoor
open Go Go.Gx Go.RowKit
set_option linter.unusedVariables false
set_option linter.unusedSimpArgs false

/-! What a tally holds, of the contracts and of the spots that count. -/
theorem mGet_map {l : List GContract} {id : Int} : mGet id (l.map fun c => (c.ID, c)) = l.find? fun c => decide (c.ID = id) := by
  induction l with
  | nil => rfl
  | cons a l ih =>
    simp only [List.map_cons, mGet, List.find?_cons]
    by_cases h : id = a.ID
    · rw [if_pos h, decide_eq_true h.symm]
    · rw [if_neg h, decide_eq_false (fun e => h e.symm), ih]
theorem mPut_new {K V : Type} [DecidableEq K] {k : K} {v : V} : ∀ {l : List (K × V)}, mGet k l = none → mPut k v l = l ++ [(k, v)]
  | [], _ => rfl
  | x :: r, h => by
    unfold mGet at h
    unfold mPut
    split at h
    · cases h
    · rename_i hk
      rw [if_neg hk, mPut_new h]; rfl
theorem mGet_put {K V : Type} [DecidableEq K] {k k' : K} {v : V} : ∀ {l : List (K × V)}, mGet k' (mPut k v l) = if k' = k then some v else mGet k' l
  | [] => by
    unfold mPut mGet
    split
    · rfl
    · rfl
  | x :: r => by
    have ih := @mGet_put K V _ k k' v r
    unfold mPut
    split
    · rename_i hk
      unfold mGet
      by_cases h : k' = x.1
      · rw [if_pos h, if_pos (h.trans hk.symm)]
      · rw [if_neg h, if_neg (fun e => h (e.trans hk))]
        rw [if_neg h]
    · rename_i hk
      unfold mGet
      by_cases h : k' = x.1
      · rw [if_pos h, if_pos h, if_neg (fun e => hk (e.symm.trans h))]
      · rw [if_neg h, if_neg h, ih]
theorem mGet_bool {l : List GSpot} {x : GSpot} : (mGet x (l.map fun s => (s, true))).getD false = decide (x ∈ l) := by
  induction l with
  | nil => rfl
  | cons a l ih =>
    simp only [List.map_cons, mGet, List.mem_cons]
    by_cases h : x = a
    · rw [if_pos h, decide_eq_true (.inl h)]; rfl
    · rw [if_neg h, ih, decide_eq_decide]
      constructor
      · exact .inr
      · rintro (e | e)
        · exact absurd e h
        · exact e
theorem mGet_bnone {l : List GSpot} {x : GSpot} (h : x ∉ l) : mGet x (l.map fun s => (s, true)) = none := by
  induction l with
  | nil => rfl
  | cons a l ih =>
    simp only [List.map_cons, mGet]
    rw [if_neg (fun e : x = a => h (by rw [e]; exact List.mem_cons_self ..)), ih fun e => h (List.mem_cons_of_mem _ e)]
def cFind (l : List GContract) (id : Int) : Option GContract := l.find? fun c => decide (c.ID = id)
def cntC (cnt : List GSpot) (id : Int) : Int := (cnt.countP fun s => decide (s.Contract = id) : Nat)
def cntD (cnt : List GSpot) (d : GDay) : Int := (cnt.countP fun s => decide (onD s = d) : Nat)
/-- The reason of a spot, by the contracts and the spots that count. -/
def rsn (l : List GContract) (cnt : List GSpot) (x : GSpot) : Int :=
  match cFind l x.Contract with
  | none => 1
  | some c => if n1 c x then 2 else if n2 c x then 3 else if decide (x ∈ cnt) then 4 else if decide (c.Count ≤ cntC cnt x.Contract) then 5 else if decide (c.PerDay ≤ cntD cnt (onD x)) then 6 else if (cnt.any fun s => nearI ((cFind l s.Contract).getD default) c s x.At) then 7 else 0
structure Tal (l : List GContract) (cnt : List GSpot) (C : List (Int × GContract)) (Sp : List (GSpot × Bool)) (Mn : List (Int × Int)) (Dy : List (GDay × Int)) : Prop where
  c : C = l.map fun c => (c.ID, c)
  s : Sp = cnt.map fun s => (s, true)
  m : ∀ id, (mGet id Mn).getD 0 = cntC cnt id
  d : ∀ d, (mGet d Dy).getD 0 = cntD cnt d
theorem cFind_id {l : List GContract} {id : Int} {c : GContract} (h : cFind l id = some c) : c.ID = id := by
  have := List.find?_some h; exact of_decide_eq_true this
theorem cFind_mem {l : List GContract} {id : Int} {c : GContract} (h : cFind l id = some c) : c ∈ l := List.mem_of_find?_eq_some h
theorem Tal.rsn {l : List GContract} {cnt : List GSpot} {C : List (Int × GContract)} {Sp : List (GSpot × Bool)} {Mn : List (Int × Int)} {Dy : List (GDay × Int)} (h : Tal l cnt C Sp Mn Dy) (x : GSpot) : rsnM C Sp Mn Dy x = rsn l cnt x := by
  unfold rsnM Go.Proofs.YteplelijhkmbkaaDoor.rsn
  have hg : ∀ id, mGet id C = cFind l id := fun id => by rw [h.c, mGet_map]; rfl
  rw [hg]
  cases hc : cFind l x.Contract with
  | none => rfl
  | some c =>
    have e3 : n3 Sp x = decide (x ∈ cnt) := by unfold n3; rw [h.s, mGet_bool]
    have e4 : n4 Mn c = decide (c.Count ≤ cntC cnt x.Contract) := by unfold n4; rw [h.m, cFind_id hc]
    have e5 : n5 Dy c x = decide (c.PerDay ≤ cntD cnt (onD x)) := by unfold n5; rw [h.d]
    have e6 : n6 C Sp c x = cnt.any fun s => nearI ((cFind l s.Contract).getD default) c s x.At := by
      unfold n6; rw [h.s, List.any_map]
      congr 1; funext s; simp only [Function.comp]; rw [hg]
    simp only [e3, e4, e5, e6]
theorem cntC_snoc {cnt : List GSpot} {x : GSpot} {id : Int} : cntC (cnt ++ [x]) id = cntC cnt id + (if x.Contract = id then 1 else 0) := by
  unfold cntC
  rw [List.countP_append, List.countP_singleton]
  by_cases h : x.Contract = id
  · simp [h]
  · simp [h]
theorem cntD_snoc {cnt : List GSpot} {x : GSpot} {d : GDay} : cntD (cnt ++ [x]) d = cntD cnt d + (if onD x = d then 1 else 0) := by
  unfold cntD
  rw [List.countP_append, List.countP_singleton]
  by_cases h : onD x = d
  · simp [h]
  · simp [h]
theorem rsn_fresh {l : List GContract} {cnt : List GSpot} {x : GSpot} (h : rsn l cnt x = 0) : x ∉ cnt := by
  unfold rsn at h
  intro hm
  rw [decide_eq_true hm] at h
  split at h
  · omega
  · (repeat' split at h) <;> first | omega | (simp at *; done)
theorem Tal.step {l : List GContract} {cnt : List GSpot} {C : List (Int × GContract)} {Sp : List (GSpot × Bool)} {Mn : List (Int × Int)} {Dy : List (GDay × Int)} {x : GSpot} (h : Tal l cnt C Sp Mn Dy) (hx : Go.Proofs.YteplelijhkmbkaaDoor.rsn l cnt x = 0) :
    Tal l (cnt ++ [x]) C (mPut x true Sp) (mPut x.Contract ((mGet x.Contract Mn).getD 0 + 1) Mn) (mPut (onD x) ((mGet (onD x) Dy).getD 0 + 1) Dy) where
  c := h.c
  s := by
    have hn := rsn_fresh hx
    rw [h.s, mPut_new (mGet_bnone hn), List.map_append]; rfl
  m id := by
    rw [mGet_put, cntC_snoc]
    by_cases e : id = x.Contract
    · subst e; rw [if_pos rfl, if_pos rfl, h.m]; rfl
    · rw [if_neg e, if_neg (fun q => e q.symm), h.m]; omega
  d id := by
    rw [mGet_put, cntD_snoc]
    by_cases e : id = onD x
    · subst e; rw [if_pos rfl, if_pos rfl, h.d]; rfl
    · rw [if_neg e, if_neg (fun q => e q.symm), h.d]; omega
theorem Tal.start {l : List GContract} : Tal l [] (l.map fun c => (c.ID, c)) [] [] [] := ⟨rfl, rfl, fun _ => rfl, fun _ => rfl⟩
/-- Contracts ascend. -/
theorem valid_lt {l : List GContract} (h : validC l = true) : ∀ (j i : Int), 0 ≤ i → i < j → j < l.length → (nth l i).ID < (nth l j).ID := by
  intro j i h0 hij hj
  obtain ⟨k, rfl⟩ : ∃ k : Nat, j = i + 1 + k := ⟨(j - i - 1).toNat, by omega⟩
  induction k with
  | zero =>
    have := validC_at h (j := i + 1) (by omega) (by omega)
    unfold okAt at this
    have h2 := of_decide_eq_true (Bool.and_eq_true_iff.1 this).2
    unfold prevC at h2
    rw [if_neg (by omega), show i + 1 - 1 = i by omega] at h2
    simpa using h2
  | succ k ih =>
    have h1 := ih (by omega) (by omega)
    have := validC_at h (j := i + 1 + (k + 1 : Nat)) (by omega) (by omega)
    unfold okAt at this
    have h2 := of_decide_eq_true (Bool.and_eq_true_iff.1 this).2
    unfold prevC at h2
    rw [if_neg (by omega), show i + 1 + ((k + 1 : Nat) : Int) - 1 = i + 1 + (k : Int) by omega] at h2
    omega
theorem valid_ok {l : List GContract} (h : validC l = true) {c : GContract} (hc : c ∈ l) : okC c = true := by
  obtain ⟨j, hj⟩ := List.getElem?_of_mem hc
  have hlt := (List.getElem?_eq_some_iff.1 hj).1
  have h1 := nth_get (l := l) (i := (j : Int)) (by omega) (by omega)
  rw [Int.toNat_natCast, hj] at h1
  cases h1
  have := validC_at h (j := (j : Int)) (by omega) (by omega)
  unfold okAt at this
  exact (Bool.and_eq_true_iff.1 this).1
theorem take_none {l : List GContract} (h : validC l = true) {i : Int} (h0 : 0 ≤ i) (hi : i < l.length) : mGet (nth l i).ID ((l.take i.toNat).map fun c => (c.ID, c)) = none := by
  rw [mGet_map, List.find?_eq_none]
  intro c hc
  obtain ⟨j, hj⟩ := List.getElem?_of_mem hc
  have hlt := (List.getElem?_eq_some_iff.1 hj).1
  rw [List.length_take] at hlt
  rw [List.getElem?_take_of_lt (by omega)] at hj
  have h1 := nth_get (l := l) (i := (j : Int)) (by omega) (by omega)
  rw [Int.toNat_natCast, hj] at h1
  cases h1
  have := valid_lt h i j (by omega) (by omega) hi
  simp; omega
theorem take_put {l : List GContract} (h : validC l = true) {i : Int} (h0 : 0 ≤ i) (hi : i < l.length) : mPut (nth l i).ID (nth l i) ((l.take i.toNat).map fun c => (c.ID, c)) = (l.take (i + 1).toNat).map fun c => (c.ID, c) := by
  rw [mPut_new (take_none h h0 hi), show (i + 1).toNat = i.toNat + 1 by omega, List.take_add_one, nth_get h0 hi, List.map_append]; rfl
/-- The order in which spots are gone through. -/
structure Ord (sp : List GSpot) (turn : List Int) : Prop where
  perm : turn.Perm (tab (fun k => (k : Int)) sp.length)
  pw : turn.Pairwise (RS (cS sp))
theorem Ord.uniq {sp : List GSpot} {a b : List Int} (ha : Ord sp a) (hb : Ord sp b) : a = b := rs_uniq (cS_sw sp) (ha.perm.trans hb.perm.symm) ha.pw hb.pw
def spAt (sp : List GSpot) (out : List Int) : List GSpot := out.map fun i => nth sp i
/-- One spot more is gone through. -/
def stepO (l : List GContract) (sp : List GSpot) (out : List Int) (i : Int) : List Int := if rsn l (spAt sp out) (nth sp i) = 0 then out ++ [i] else out
def outOf (l : List GContract) (sp : List GSpot) (turn : List Int) : List Int := turn.foldl (stepO l sp) []
end Go.Proofs.YteplelijhkmbkaaDoor
