import Derived.Test.YtfdjnadopniaeaaJ2
import Derived.Test.YtfdjnadopniaeaaK3
import Derived.Test.YtfdjnadopniaeaaGxJ
namespace Go.Proofs.Ytfdjnadopniaeaa
open Go Go.Gx Go.RowKit
open Kuhn
set_option linter.unusedVariables false
set_option linter.unusedSimpArgs false

def prmN (l : List GGrant) (us : List GUse) (k u : Nat) : Bool := permG (nth l (k : Int)) (nth us (u : Int))
def plyN (l : List GGrant) (k : Nat) : Nat := (nth l (k : Int)).Plays.toNat
abbrev iz (r : List Nat) : List Int := r.map fun (n : Nat) => (n : Int)
abbrev ptr (b : Nat) : Value := .pointer (some ⟨b, 0, none⟩)
abbrev giveV (b2 b3 b5 b7 b8 : Nat) : Value := .func (.func 53) #[] [ptr b2, ptr b7, ptr b3, ptr b5, ptr b8].toArray
abbrev rowsK (hs : List Value) (g : List (List Nat)) : List Ob := rowsOb (fInt .i64) 3 hs (g.map iz)
abbrev memK (b2 b3 b5 b7 b8 : Nat) (vl vu vg vs : Value) (hs : List Value) (s : KS) (ex : List Ob) : List Ob :=
  .var b2 22 [vl] :: .var b3 23 [vu] :: rowOb fVal 26 vg hs :: .var b5 80 [vg] :: rowOb fBool 4 vs s.seen :: .var b7 81 [vs] :: .var b8 74 [giveV b2 b3 b5 b7 b8] :: (rowsK hs s.given ++ ex)
theorem getD_iz (g : List (List Nat)) (k : Nat) : (g.map iz).getD k [] = iz (g.getD k []) := by
  simp only [List.getD, List.getElem?_map]
  cases g[k]? <;> rfl
theorem rowsK_get {hs : List Value} {g : List (List Nat)} {ex : List Ob} (h : hs.length = g.length) {i : Int} (h0 : 0 ≤ i) (hk : i < g.length) : (rowsK hs g ++ ex)[i.toNat]? = some (rowOb (fInt .i64) 3 (nth hs i) (iz (g.getD i.toNat []))) := by
  have hk' : i.toNat < (g.map iz).length := by simp; omega
  rw [List.getElem?_append_left (by rw [rowsOb_length (by simp [h])]; exact hk'), rowsOb_get (by simp [h]) hk', getD_iz]
  rfl
theorem rowsK_set {hs : List Value} {g : List (List Nat)} {ex : List Ob} {k : Nat} {v : Value} {r : List Nat} (h : hs.length = g.length) (hk : k < g.length) : (rowsK hs g ++ ex).set k (rowOb (fInt .i64) 3 v (iz r)) = rowsK (hs.set k v) (g.set k r) ++ ex := by
  rw [List.set_append_left _ _ (by rw [rowsOb_length (by simp [h])]; simpa using hk), rowsOb_set]
  simp [rowsK, List.map_set]
theorem drop_range {m : Nat} {i : Int} (h0 : 0 ≤ i) (h : i < m) : (List.range m).drop i.toNat = i.toNat :: (List.range m).drop (i + 1).toNat := by
  have h' : i.toNat < (List.range m).length := by simp; omega
  rw [List.drop_eq_getElem_cons h', show (i + 1).toNat = i.toNat + 1 by omega]
  simp
theorem drop_nth {r : List Nat} {j : Int} (h0 : 0 ≤ j) (h : j < r.length) : r.drop j.toNat = r.getD j.toNat 0 :: r.drop (j + 1).toNat := by
  have h' : j.toNat < r.length := by omega
  rw [List.drop_eq_getElem_cons h', show (j + 1).toNat = j.toNat + 1 by omega]
  simp [List.getD, List.getElem?_eq_getElem h']
theorem nth_iz (r : List Nat) (j : Int) (h0 : 0 ≤ j) (h : j < r.length) : nth (iz r) j = ((r.getD j.toNat 0 : Nat) : Int) := by
  have h' : j.toNat < r.length := by omega
  simp [nth, iz, List.getD, List.getElem?_eq_getElem h']
theorem set_nth {vs : List Value} {i : Int} (h0 : 0 ≤ i) (h : i < vs.length) : vs.set i.toNat (nth vs i) = vs := by
  have h' : i.toNat < vs.length := by omega
  simp [nth, List.getD, List.getElem?_eq_getElem h']
theorem prmN_nth (l : List GGrant) (us : List GUse) {i j : Int} (hi : 0 ≤ i) (hj : 0 ≤ j) : prmN l us i.toNat j.toNat = permG (nth l i) (nth us j) := by unfold prmN; rw [Int.toNat_of_nonneg hi, Int.toNat_of_nonneg hj]
theorem rows9 {w0 w : World} {x y o1 o2 o3 o4 o5 o6 o7 : Ob} {hs : List Value} {g : List (List Nat)} {ex : List Ob} {i : Int} {v : Value} {r : List Nat} {z : List Int} (hz : z = iz r) (h : hs.length = g.length) (hk : i.toNat < g.length)
    (S : St w0 w ((x :: y :: o1 :: o2 :: o3 :: o4 :: o5 :: o6 :: o7 :: (rowsK hs g ++ ex)).set (i.toNat + 9) (rowOb (fInt .i64) 3 v z))) : St w0 w (x :: y :: o1 :: o2 :: o3 :: o4 :: o5 :: o6 :: o7 :: (rowsK (hs.set i.toNat v) (g.set i.toNat r) ++ ex)) := by
  subst hz
  rw [← rowsK_set h hk]; exact S
theorem rows7 {w0 w : World} {o1 o2 o3 o4 o5 o6 o7 : Ob} {hs : List Value} {g : List (List Nat)} {ex : List Ob} {i : Int} {v : Value} {r : List Nat} {z : List Int} (hz : z = iz r) (h : hs.length = g.length) (hk : i.toNat < g.length)
    (S : St w0 w ((o1 :: o2 :: o3 :: o4 :: o5 :: o6 :: o7 :: (rowsK hs g ++ ex)).set (i.toNat + 7) (rowOb (fInt .i64) 3 v z))) : St w0 w (o1 :: o2 :: o3 :: o4 :: o5 :: o6 :: o7 :: (rowsK (hs.set i.toNat v) (g.set i.toNat r) ++ ex)) := by
  subst hz
  rw [← rowsK_set h hk]; exact S
theorem nth_set_self {vs : List Value} {i : Int} {v : Value} (h0 : 0 ≤ i) (h : i < vs.length) : nth (vs.set i.toNat v) i = v := by
  have h' : i.toNat < vs.length := by omega
  simp [nth, List.getD, h']
theorem getD_set_self {g : List (List Nat)} {k : Nat} {r : List Nat} (h : k < g.length) : (g.set k r).getD k [] = r := by simp [List.getD, h]
theorem iz_app (r : List Nat) (u : Nat) : iz r ++ [(u : Int)] = iz (r ++ [u]) := by simp
theorem iz_set (r : List Nat) (j u : Nat) : (iz r).set j (u : Int) = iz (r.set j u) := by simp [List.map_set]
theorem one_slice {A : Option Addr} {n c : Nat} {v : Value} (h : v = .slice A n c) : ∀ u ∈ fVal.enc v, u.oneCell' = true := fun u hu => by
  cases List.mem_singleton.1 hu; subst h; rfl
theorem row_flat {s : KS} {k o : Nat} (hk : k < s.given.length) (h : o ∈ s.row k) : o ∈ flat s := by
  unfold KS.row at h
  simp only [List.getD, List.getElem?_eq_getElem hk, Option.getD_some] at h
  exact List.mem_flatten.2 ⟨_, List.getElem_mem hk, h⟩
theorem getD_mem {r : List Nat} {j : Nat} (h : j < r.length) : r.getD j 0 ∈ r := by
  simp only [List.getD, List.getElem?_eq_getElem h, Option.getD_some]; exact List.getElem_mem h
theorem flat_eq {s s' : KS} (h : s'.given = s.given) : flat s' = flat s := by unfold flat; rw [h]
end Go.Proofs.Ytfdjnadopniaeaa
