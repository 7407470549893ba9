import Derived.Test.YtgphmhpcaeiglaaH
import Derived.Test.YtgphmhpcaeiglaaGxSort
import Derived.Shelf.SlicesG.Cmp
import Derived.Shelf.SlSortCmp.NoneTotal
import Derived.Test.YtgphmhpcaeiglaaChecked
namespace Go.Proofs
open Go.Shelf
def Ytgphmhpcaeiglaa.sortEdge_ren : Go.Shelf.Ren := ⟨fun | 6 => 30 | 15 => 42 | 14 => 41 | 28 => 53 | 29 => 54 | 20 => 45 | 21 => 46 | 22 => 47 | 23 => 48 | 24 => 49 | 25 => 50 | 26 => 51 | 27 => 52 | 46 => 55 | 47 => 56 | 48 => 57 | 49 => 58 | 50 => 59 | 57 => 60 | n => n, fun | 22 => 54 | 24 => 56 | 25 => 58 | 3 => 3 | 39 => 69 | 0 => 0 | 53 => 81 | 55 => 83 | 4 => 4 | 46 => 74 | 45 => 73 | 50 => 78 | 5 => 5 | 9 => 9 | 66 => 84 | 70 => 88 | 76 => 90 | 77 => 29 | n => n, fun | n => n⟩
theorem Ytgphmhpcaeiglaa.sortEdge : Go.Proofs.SlLaysF0.n6 Try.prog Ytgphmhpcaeiglaa.sortEdge_ren := {
  mixed := by kernel_rfl,
  f6 := ⟨Try.f30.name, by decide, Try.func30.trans (congrArg some (by kernel_rfl))⟩,
  f14 := ⟨Try.f41.name, by decide, Try.func41.trans (congrArg some (by kernel_rfl))⟩,
  f15 := Try.func42.trans (congrArg some (by kernel_rfl)),
  f20 := ⟨Try.f45.name, by decide, Try.func45.trans (congrArg some (by kernel_rfl))⟩,
  f21 := ⟨Try.f46.name, by decide, Try.func46.trans (congrArg some (by kernel_rfl))⟩,
  f22 := ⟨Try.f47.name, by decide, Try.func47.trans (congrArg some (by kernel_rfl))⟩,
  f23 := ⟨Try.f48.name, by decide, Try.func48.trans (congrArg some (by kernel_rfl))⟩,
  f24 := ⟨Try.f49.name, by decide, Try.func49.trans (congrArg some (by kernel_rfl))⟩,
  f25 := ⟨Try.f50.name, by decide, Try.func50.trans (congrArg some (by kernel_rfl))⟩,
  f26 := ⟨Try.f51.name, by decide, Try.func51.trans (congrArg some (by kernel_rfl))⟩,
  f27 := ⟨Try.f52.name, by decide, Try.func52.trans (congrArg some (by kernel_rfl))⟩,
  f28 := Try.func53.trans (congrArg some (by kernel_rfl)),
  f29 := Try.func54.trans (congrArg some (by kernel_rfl)),
  f46 := ⟨Try.f55.name, by decide, Try.func55.trans (congrArg some (by kernel_rfl))⟩,
  f47 := Try.func56.trans (congrArg some (by kernel_rfl)),
  f48 := Try.func57.trans (congrArg some (by kernel_rfl)),
  f49 := ⟨Try.f58.name, by decide, Try.func58.trans (congrArg some (by kernel_rfl))⟩,
  f50 := ⟨Try.f59.name, by decide, Try.func59.trans (congrArg some (by kernel_rfl))⟩,
  f57 := ⟨Try.f60.name, by decide, Try.func60.trans (congrArg some (by kernel_rfl))⟩,
  t0 := Try.underlying0,
  a0 := Try.isAgg0,
  z0 := Try.sizeOf0,
  v0 := Try.zeroValue0,
  t3 := Try.underlying3,
  a3 := Try.isAgg3,
  z3 := Try.sizeOf3,
  v3 := Try.zeroValue3,
  t4 := Try.underlying4,
  a4 := Try.isAgg4,
  z4 := Try.sizeOf4,
  v4 := Try.zeroValue4,
  t5 := Try.underlying5,
  a5 := Try.isAgg5,
  z5 := Try.sizeOf5,
  v5 := Try.zeroValue5,
  t9 := Try.underlying9,
  a9 := Try.isAgg9,
  z9 := Try.sizeOf9,
  v9 := Try.zeroValue9,
  t22 := Try.underlying54,
  a22 := Try.isAgg54,
  z22 := Try.sizeOf54,
  v22 := Try.zeroValue54,
  t25 := Try.underlying58,
  a25 := Try.isAgg58,
  z25 := Try.sizeOf58,
  v25 := Try.zeroValue58,
  t39 := Try.underlying69,
  a39 := Try.isAgg69,
  z39 := Try.sizeOf69,
  v39 := Try.zeroValue69,
  t45 := Try.underlying73,
  a45 := Try.isAgg73,
  z45 := Try.sizeOf73,
  v45 := Try.zeroValue73,
  t46 := Try.underlying74,
  a46 := Try.isAgg74,
  z46 := Try.sizeOf74,
  v46 := Try.zeroValue74,
  t50 := Try.underlying78,
  a50 := Try.isAgg78,
  z50 := Try.sizeOf78,
  v50 := Try.zeroValue78,
  t53 := Try.underlying81,
  a53 := Try.isAgg81,
  z53 := Try.sizeOf81,
  v53 := Try.zeroValue81,
  t55 := Try.underlying83,
  a55 := Try.isAgg83,
  z55 := Try.sizeOf83,
  v55 := Try.zeroValue83,
  t66 := Try.underlying84,
  a66 := Try.isAgg84,
  z66 := Try.sizeOf84,
  v66 := Try.zeroValue84,
  t70 := Try.underlying88,
  a70 := Try.isAgg88,
  z70 := Try.sizeOf88,
  v70 := Try.zeroValue88,
  t76 := Try.underlying90,
  a76 := Try.isAgg90,
  z76 := Try.sizeOf90,
  v76 := Try.zeroValue90,
  t77 := Try.underlying29,
  a77 := Try.isAgg29,
  z77 := Try.sizeOf29,
  v77 := Try.zeroValue29 }
def Ytgphmhpcaeiglaa.cmpInt_ren : Go.Shelf.Ren := ⟨fun | 5 => 32 | 7 => 43 | n => n, fun | 22 => 3 | 3 => 3 | 4 => 4 | n => n, fun | n => n⟩
theorem Ytgphmhpcaeiglaa.cmpInt : Go.Proofs.SlLaysC2.n5 Try.prog Ytgphmhpcaeiglaa.cmpInt_ren := {
  mixed := by kernel_rfl,
  f5 := ⟨Try.f32.name, by decide, Try.func32.trans (congrArg some (by kernel_rfl))⟩,
  f7 := ⟨Try.f43.name, by decide, Try.func43.trans (congrArg some (by kernel_rfl))⟩,
  t3 := Try.underlying3,
  a3 := Try.isAgg3,
  z3 := Try.sizeOf3,
  v3 := Try.zeroValue3,
  t4 := Try.underlying4,
  a4 := Try.isAgg4,
  z4 := Try.sizeOf4,
  v4 := Try.zeroValue4,
  t22 := Try.underlying3,
  a22 := Try.isAgg3,
  z22 := Try.sizeOf3,
  v22 := Try.zeroValue3 }
end Go.Proofs
namespace Go.Proofs.Ytgphmhpcaeiglaa
open Go Go.Gx Go.RowKit
set_option linter.unusedVariables false
set_option linter.unusedSimpArgs false

theorem compareInt_cmpI (a b : Int) : Lib.compareInt a b = cmpI a b := rfl
set_option maxHeartbeats 1000000 in
theorem agree1_lays (x y : GEdge) (W : World) : Calls Try.prog 31 #[.agg #[.int .i64 x.at_, .int .i64 x.by_], .agg #[.int .i64 y.at_, .int .i64 y.by_]] W fun e w' => e = .returned (.int .i64 (cmpI x.at_ y.at_)) ∧ ∃ q os', w' = Go.Sort.grow (W.drewN q) os' := by
  have hcon := fun W' => AnyG.cmp_Compare_int Ytgphmhpcaeiglaa.cmpInt x.at_ y.at_ W'
  change ∀ W', Calls Try.prog 32 _ _ _ at hcon
  rw [← compareInt_cmpI]
  generalize Lib.compareInt x.at_ y.at_ = r at hcon ⊢
  go_enter Try.func31, Try.ntmps31
  go_wp2_with (go_at_call 32; refine (hcon _).mono ?_; rintro e w' ⟨rfl, rfl⟩)
  go_ret
  exact ⟨rfl, 0, _, by rw [Go.Sort.alloc_eq_grow, Go.Sort.alloc_eq_grow, Go.Sort.grow_grow]; rfl⟩

def ltE (x y : GEdge) : Bool := ltOf (fun x y : GEdge => cmpI x.at_ y.at_) x y
theorem ltE_iff (x y : GEdge) : ltE x y = decide (x.at_ < y.at_) := by
  unfold ltE ltOf
  simp only [cmpI_lt]
theorem swoE : Go.Sort.SWO ltE where
  irrefl x := by rw [ltE_iff]; simp
  trans x y z h1 h2 := by rw [ltE_iff] at *; simp at *; omega
  ntrans x y z h1 h2 := by rw [ltE_iff] at *; simp at *; omega
theorem sortE_spec {w0 w : World} {os : List Ob} {i b cap : Nat} {l : List GEdge} (S : St w0 w os) (hi : os[i]? = some (rowOb fGEdge 56 (.slice (some ⟨b, 0, none⟩) l.length cap) l)) (hl : l.length ≤ 1000000) :
    CallsW Try.prog 30 #[.slice (some ⟨b, 0, none⟩) l.length cap, .func (.func 31) #[] #[]] w fun v w' =>
      v = .tuple #[] ∧ ∃ l', l'.Perm l ∧ l'.length = l.length ∧ l'.Pairwise (fun x y => ltE y x = false) ∧ St w0 w' (os.set i (rowOb fGEdge 56 (.slice (some ⟨b, 0, none⟩) l.length cap) l')) :=
  sort_row (D := fGEdge) (by decide) S hi fun hH hb => by
    have hcon := AnyQ.slices_SortFunc Ytgphmhpcaeiglaa.sortEdge 2 Try.isAgg56 Try.sizeOf56 GEdge.enc (fun _ => rfl) (fun x v hv => by simp [GEdge.enc] at hv; rcases hv with rfl | rfl <;> rfl) (fun x y => cmpI x.at_ y.at_) swoE 31 #[] b 0 cap l.toArray w
      (enters_of Try.func31 (by kernel_rfl) rfl) (fun _ _ _ _ x y => agree1_lays x y _) hH hb (by simp; omega)
    exact hcon
theorem sortE_any {w0 w : World} {os : List Ob} {i : Nat} {v : Value} {l : List GEdge} (S : St w0 w os) (hi : os[i]? = some (rowOb fGEdge 56 v l)) (hl : l.length ≤ 1000000) :
    CallsW Try.prog 30 #[v, .func (.func 31) #[] #[]] w fun u w' =>
      u = .tuple #[] ∧ ∃ l', l'.Perm l ∧ l'.length = l.length ∧ l'.Pairwise (fun x y => ltE y x = false) ∧ St w0 w' (os.set i (rowOb fGEdge 56 v l')) := by
  have hh : w.ownsRow w0.heap.size 56 fGEdge.sz v l.length (fl fGEdge l) := S.ok _ (mem_of_get hi)
  rcases hh.2 with ⟨hv, h0⟩ | ⟨g', cap', cur, hv, _⟩
  · subst hv
    have e : l = [] := List.length_eq_zero_iff.1 h0
    subst e
    have hcon := AnyF.slices_SortFunc_none Ytgphmhpcaeiglaa.sortEdge none 0 (.func (.func 31) #[] #[]) w
    refine ⟨Calls.mono hcon fun e w' ⟨he, hw⟩ => ⟨_, he, rfl, [], List.Perm.refl _, rfl, List.Pairwise.nil, ?_⟩⟩
    subst hw
    have := (List.getElem?_eq_some_iff.1 hi)
    obtain ⟨h1, h2⟩ := this
    rw [← h2, List.set_getElem_self]; exact S
  · subst hv
    exact sortE_spec S hi hl
end Go.Proofs.Ytgphmhpcaeiglaa
