/- Merged texts: Laid. -/
import Derived.Test.YtgdmaadikcnagaaDoorRows
import Derived.Test.YtgdmaadikcnagaaDoorMB1
import Derived.ProofKit
import Derived.LaidMore
import Derived.LaidOnce
import Derived.OpenShut
import Derived.Stop.Joined
namespace Go.Proofs.YtgdmaadikcnagaaDoor
open Go Go.Gx Go.RowKit Go.ChangeShapes Go.WideShapes Go.ChangeAt
set_option linter.unusedVariables false
set_option linter.unusedSimpArgs false

abbrev laidL : List (String × DataW Unit) := [("aircheck/contract.tests", Rows.laid_aircheck_contract_tests), ("aircheck/debt.kinds", Rows.laid_aircheck_debt_kinds)]
theorem door_met (os : Os) (args : Array Value) : laidMetH Tryd.prog laidL ((World.doorLaid Tryd.prog 400 os).forCall (fun _ _ => 0) ⟨#[], args, []⟩).memory :=
  laidMetH_of_parts3 (fuel := 8) (laidMet_of_run' 8 (by kernel_rfl) (by kernel_rfl)) (by kernel_rfl) (by kernel_rfl)
theorem nil_of_trod {P : Program} {w : World} {base : Nat} {sp : Nat → Bool} {fuel : Nat} {t : TypeId} {ps rs : Array TypeId} {va : Bool} {H : Type} {enc : TypeId × Value → H} {v : Value} {q : List MemPlace} (ht : P.underlying t = some (.func ps rs va)) (h : DataW.trod enc P w base sp true fuel t [v] = some (.nil, q)) : v = .nilFunc := by
  cases fuel with
  | zero => simp [DataW.trod] at h
  | succ n => cases v <;> simp [DataW.trod, ht] at h ⊢
set_option maxRecDepth 100000 in
theorem tbl_of_laid {W : World} (h : laidMetH Tryd.prog laidL W) : TblAt W := by
  obtain ⟨g, t, cs, fuel, p, hg, ht, hv, hd⟩ := h.funcs (n := "aircheck/contract.tests") (List.mem_cons_self ..)
  obtain rfl := Option.some.inj ((show Tryd.prog.globalNamed "aircheck/contract.tests" = some 1 by kernel_rfl).symm.trans hg)
  obtain rfl := Option.some.inj ((show (Tryd.prog.globals[1]?).map (·.type) = some 160 by kernel_rfl).symm.trans ht)
  obtain ⟨xs, m, rfl, hx, hlen, hn, hel⟩ := DataW.trod_array Tryd.underlying160 hd
  have c89 : Tryd.prog.cellsOf 159 = 1 := by kernel_rfl
  have c90 : Tryd.prog.cellsOf 160 = 8 := by kernel_rfl
  rw [c90] at hlen
  simp only [c89, Nat.mul_one] at hel
  obtain ⟨l⟩ := cs
  match l, hlen with
  | [v0, v1, v2, v3, v4, v5, v6, v7], _ =>
    match xs, hn with
    | [x0, x1, x2, x3, x4, x5, x6, x7], _ =>
      have hy := (Prod.mk.inj hx).1
      simp only [DataW.funcsOut, DataW.funcsOutAll, List.map_cons, List.map_nil, DataW.agg.injEq, List.cons.injEq, and_true] at hy
      obtain ⟨y0, y1, y2, y3, y4, y5, y6, y7⟩ := hy
      have z : ∀ {v : Value} {x : DataW (List UInt8) × List MemPlace} {d : DataW (List UInt8)}, DataW.trod (funcToken Tryd.prog) Tryd.prog W 0 (fun _ => true) true m 159 [v] = some x → d = x.1 → DataW.trod (funcToken Tryd.prog) Tryd.prog W 0 (fun _ => true) true m 159 [v] = some (d, x.2) := fun h e => by rw [e]; exact h
      obtain rfl := nil_of_trod Tryd.underlying159 (z (hel 0 (by decide)) y0)
      obtain rfl := nil_of_trod Tryd.underlying159 (z (hel 1 (by decide)) y1)
      obtain rfl := Go.func_of_trod (f0 := 139) Tryd.underlying159 (by kernel_rfl) (z (hel 2 (by decide)) y2)
      obtain rfl := Go.func_of_trod (f0 := 140) Tryd.underlying159 (by kernel_rfl) (z (hel 3 (by decide)) y3)
      obtain rfl := Go.func_of_trod (f0 := 142) Tryd.underlying159 (by kernel_rfl) (z (hel 4 (by decide)) y4)
      obtain rfl := Go.func_of_trod (f0 := 143) Tryd.underlying159 (by kernel_rfl) (z (hel 5 (by decide)) y5)
      obtain rfl := Go.func_of_trod (f0 := 144) Tryd.underlying159 (by kernel_rfl) (z (hel 6 (by decide)) y6)
      obtain rfl := Go.func_of_trod (f0 := 145) Tryd.underlying159 (by kernel_rfl) (z (hel 7 (by decide)) y7)
      have hc := fun j => World.var?_cell hg hv j
      refine ⟨?_, rfl, fun j u hj => ?_⟩
      · have h0 := hc 0
        show 1 < W.heap.size
        rcases Nat.lt_or_ge 1 W.heap.size with e | e
        · exact e
        · unfold World.cell? at h0
          rw [Array.getElem?_eq_none (by omega)] at h0
          simp at h0
      · rw [add_lit, Nat.zero_add, hc j]
        simpa using hj
theorem mapM_some {α β : Type} {f : α → Option β} : ∀ {l : List α} {r : List β}, l.mapM f = some r → l.length = r.length ∧ ∀ (i : Nat) (x : α), l[i]? = some x → ∃ y, r[i]? = some y ∧ f x = some y
  | [], r, h => by
    simp at h; subst h
    exact ⟨rfl, fun i x h => by simp at h⟩
  | a :: l, r, h => by
    rw [List.mapM_cons] at h
    cases ha : f a with
    | none => rw [ha] at h; cases h
    | some b =>
      rw [ha] at h
      cases hl : l.mapM f with
      | none => rw [hl] at h; cases h
      | some r' =>
        rw [hl] at h
        have e : r = b :: r' := by simpa using h.symm
        subst e
        have ih := mapM_some hl
        refine ⟨by simp [ih.1], fun i x hx => ?_⟩
        cases i with
        | zero => simp at hx; subst hx; exact ⟨b, rfl, ha⟩
        | succ i => exact ih.2 i x (by simpa using hx)
set_option maxRecDepth 100000 in
theorem kind_of_val {W : World} {n : Nat} {v : Value} {c1 c2 : UInt8} {r1 r2 : List UInt8} {q : List MemPlace} {f1 f2 : FuncId}
    (hone1 : ((List.range Tryd.prog.funcs.size).filter fun f => (Tryd.prog.funcs[f]?).any (·.name.toUTF8.data.toList == c1 :: r1)) = [f1]) (hone2 : ((List.range Tryd.prog.funcs.size).filter fun f => (Tryd.prog.funcs[f]?).any (·.name.toUTF8.data.toList == c2 :: r2)) = [f2])
    (h : WideElems.elemAt (funcToken Tryd.prog) Tryd.prog W 0 (fun _ => true) true n 120 v = some (.agg [.held (c1 :: r1), .held (c2 :: r2)], q)) : v = .agg #[fnv f1, fnv f2] := by
  unfold WideElems.elemAt at h
  have hu := Tryd.underlying120
  have hcs : Tryd.prog.cellsOf 120 = 2 := by kernel_rfl
  have hc1 : Tryd.prog.cellsOf 117 = 1 := by kernel_rfl
  have hc2 : Tryd.prog.cellsOf 118 = 1 := by kernel_rfl
  by_cases hf : Value.formed Tryd.prog 120 v = true
  · rw [if_pos hf] at h
    cases v with
    | agg cs =>
      have hsz : cs.size = 2 := by
        simp only [Value.formed, hu, hcs, beq_iff_eq] at hf; exact hf
      obtain ⟨l⟩ := cs
      match l, hsz with
      | [v0, v1], _ =>
        cases n with
        | zero => simp [DataW.trod] at h
        | succ n =>
          have hcl : (Value.agg #[v0, v1]).cells.toList = [v0, v1] := rfl
          rw [hcl, DataW.trod_step] at h
          unfold DataW.trodStep at h
          simp only [hu, hcs, hc1, hc2, List.length_cons, List.length_nil, Nat.zero_add, Nat.reduceAdd, if_true, List.drop_zero, List.take_succ_cons, List.take_zero, List.drop_succ_cons, List.mapM_cons, List.mapM_nil] at h
          cases h0 : DataW.trod (funcToken Tryd.prog) Tryd.prog W 0 (fun _ => true) true n 117 [v0] with
          | none => rw [h0] at h; simp at h
          | some y0 =>
            cases h1 : DataW.trod (funcToken Tryd.prog) Tryd.prog W 0 (fun _ => true) true n 118 [v1] with
            | none => rw [h0, h1] at h; simp at h
            | some y1 =>
              rw [h0, h1] at h
              simp at h
              obtain ⟨y0a, y0b⟩ := y0
              obtain ⟨y1a, y1b⟩ := y1
              simp at h
              obtain ⟨⟨e1, e2⟩, -⟩ := h
              subst e1 e2
              rw [Go.func_of_trod (f0 := f1) Tryd.underlying117 hone1 h0, Go.func_of_trod (f0 := f2) Tryd.underlying118 hone2 h1]
    | _ => simp [Value.formed, hu] at hf
  · rw [if_neg hf] at h; cases h
theorem dGet_mem {V : Type} {k : Int} {v : V} : ∀ {l : List (Int × V × Nat)}, dGet k l = some v → ∃ s, (k, v, s) ∈ l
  | [], h => by cases h
  | a :: r, h => by
    unfold dGet at h; split at h
    · rename_i e
      refine ⟨a.2.2, ?_⟩
      have := Option.some.inj h
      rw [e, ← this]; exact List.mem_cons_self ..
    · obtain ⟨s, hs⟩ := dGet_mem h
      exact ⟨s, List.mem_cons_of_mem _ hs⟩
/-- A datum that names a function. -/
def Nm (f : Nat) (d : DataW (List UInt8)) : Prop := ∃ c r, d = .held (c :: r) ∧ ((List.range Tryd.prog.funcs.size).filter fun f => (Tryd.prog.funcs[f]?).any (·.name.toUTF8.data.toList == c :: r)) = [f]
def kOf (x : MapEntry) : Int := match x.key with
  | .int _ k => k
  | _ => 0
def litI : Lit → Int
  | .int _ k => k
  | _ => 0
set_option maxRecDepth 100000 in
theorem map_of_trod {W : World} {fuel : Nat} {v : Value} {p : List MemPlace} {a1 a2 a3 a4 d1 d2 d3 d4 : DataW (List UInt8)} (n1 : Nm 128 a1) (m1 : Nm 129 d1) (n2 : Nm 131 a2) (m2 : Nm 133 d2) (n3 : Nm 135 a3) (m3 : Nm 136 d3) (n4 : Nm 137 a4) (m4 : Nm 138 d4)
    (hd : DataW.trod (funcToken Tryd.prog) Tryd.prog W 0 (fun _ => true) true fuel 122 [v] = some (.map [(.int .i64 1, .agg [a1, d1]), (.int .i64 2, .agg [a2, d2]), (.int .i64 3, .agg [a3, d3]), (.int .i64 4, .agg [a4, d4])], p)) :
    ∃ b, v = .map (some b) ∧ DMAt W b eI eKd kindsM := by
  have hu := Tryd.underlying122
  cases fuel with
  | zero => simp [DataW.trod] at hd
  | succ n =>
    have hmap : ∃ b es clock, v = .map (some b) ∧ W.heap[b]? = some (.map es clock) := by
      have h := hd
      rw [DataW.trod_step] at h
      unfold DataW.trodStep at h
      simp only [hu] at h
      cases v with
      | map r =>
        cases r with
        | none => simp at h
        | some b =>
          simp only at h
          cases hb : W.heap[b]? with
          | none => rw [hb] at h; cases h
          | some o =>
            rw [hb] at h
            cases o with
            | map es clock => exact ⟨b, es, clock, rfl, hb⟩
            | _ => cases h
      | _ => cases h
    obtain ⟨b, es, clock, rfl, hb⟩ := hmap
    refine ⟨b, rfl, _, hb, ?_⟩
    rw [WideElems.trod_map_eq hu n b hb] at hd
    split at hd
    case isFalse => cases hd
    rename_i hcond
    obtain ⟨-, -, hlt, hdup⟩ := hcond
    rw [Option.bind_eq_some_iff] at hd
    obtain ⟨entries, hent, hd⟩ := hd
    split at hd
    case isFalse => cases hd
    have hd := (Prod.mk.inj (Option.some.inj hd)).1
    have hd := DataW.map.inj hd
    have hperm := (WideShapes.sorted_perm (entries.map (·.1))).symm
    rw [hd] at hperm
    obtain ⟨hlen, hall⟩ := mapM_some hent
    have key : ∀ (i : Nat) (x : MapEntry), es.toList[i]? = some x → ∃ (k : Int) (q : Nat × Nat) (y : (Lit × DataW (List UInt8)) × List MemPlace), entries[i]? = some y ∧ y.1.1 = .int .i64 k ∧ x.key = eI k ∧ kindsM k = some q ∧ x.val = eKd q := fun i x hi => by
      obtain ⟨y, hy, hf⟩ := hall i x hi
      rw [Option.map_eq_some_iff] at hf
      obtain ⟨z, hz, hzy⟩ := hf
      have hy1 : y.1 = z := by rw [← hzy]
      have hk := WideElems.rd_key hz
      obtain ⟨u, hu1, hu2⟩ := WideElems.rd_val hz
      have hm := hperm.mem_iff.1 (List.mem_map_of_mem (f := (·.1)) (List.mem_of_getElem? hy))
      rw [hy1] at hm
      obtain ⟨ku, hku, hlit, -⟩ := Maps.keyOf_i64 Tryd.underlying3 hk
      have hval : ∀ {a d : DataW (List UInt8)} {fa fd : Nat}, Nm fa a → Nm fd d → z.2 = .agg [a, d] → x.val = eKd (fa, fd) := fun {a d fa fd} na nd e => by
        obtain ⟨c1, r1, rfl, o1⟩ := na
        obtain ⟨c2, r2, rfl, o2⟩ := nd
        obtain ⟨u1, u2⟩ := u
        rw [e] at hu2
        simp only at hu2
        subst hu2
        exact kind_of_val o1 o2 hu1
      have fin : ∀ {k : Int} {q : Nat × Nat}, z.1 = .int .i64 k → kindsM k = some q → x.val = eKd q → ∃ (k : Int) (q : Nat × Nat) (y : (Lit × DataW (List UInt8)) × List MemPlace), entries[i]? = some y ∧ y.1.1 = .int .i64 k ∧ x.key = eI k ∧ kindsM k = some q ∧ x.val = eKd q := fun {k q} e1 e2 e3 => by
        rw [hlit] at e1
        have : ku = k := by simpa using e1
        subst this
        exact ⟨ku, q, y, hy, by rw [hy1]; exact hlit, hku, e2, e3⟩
      simp only [List.mem_cons, List.not_mem_nil, or_false] at hm
      rcases hm with rfl | rfl | rfl | rfl
      · exact fin rfl rfl (hval n1 m1 rfl)
      · exact fin rfl rfl (hval n2 m2 rfl)
      · exact fin rfl rfl (hval n3 m3 rfl)
      · exact fin rfl rfl (hval n4 m4 rfl)
    have hkl : (es.toList.map kOf) = entries.map fun y => litI y.1.1 := by
      apply List.ext_getElem?
      intro i
      rw [List.getElem?_map, List.getElem?_map]
      by_cases hi : i < es.toList.length
      · obtain ⟨k, q, y, h1, h2, h3, h4, h5⟩ := key i _ (List.getElem?_eq_getElem hi)
        rw [h1, List.getElem?_eq_getElem hi]
        simp only [Option.map_some, Option.some.injEq]
        rw [h2]; unfold kOf; rw [h3]; rfl
      · rw [List.getElem?_eq_none (by omega), List.getElem?_eq_none (by omega)]; rfl
    have hkp : (es.toList.map kOf).Perm [1, 2, 3, 4] := by
      rw [hkl]
      have := hperm.map fun x => litI x.1
      rw [List.map_map] at this
      exact this
    have hx : ∀ x ∈ es.toList, x.key = eI (kOf x) ∧ ∃ q, kindsM (kOf x) = some q ∧ x.val = eKd q := fun x hx => by
      obtain ⟨i, hi⟩ := List.getElem?_of_mem hx
      obtain ⟨k, q, y, h1, h2, h3, h4, h5⟩ := key i x hi
      have e : kOf x = k := by unfold kOf; rw [h3]
      rw [e]; exact ⟨h3, q, h4, h5⟩
    refine ⟨es.toList.map fun x => (kOf x, (kindsM (kOf x)).getD (0, 0), x.born), clock, ?_, ⟨?_, ?_, ?_⟩, ?_⟩
    · have : dEs eI eKd (es.toList.map fun x => (kOf x, (kindsM (kOf x)).getD (0, 0), x.born)) = es.toList := by
        unfold dEs
        rw [List.map_map]
        conv => rhs; rw [← List.map_id es.toList]
        apply List.map_congr_left
        intro x hxm
        obtain ⟨h1, q, h2, h3⟩ := hx x hxm
        rw [Function.comp_apply]
        show MapEntry.mk (eI (kOf x)) (eKd ((kindsM (kOf x)).getD (0, 0))) x.born = x
        rw [h2, ← h1]
        show MapEntry.mk x.key (eKd q) x.born = x
        rw [← h3]
      rw [this]
    · rw [List.map_map]
      exact hkp.nodup_iff.2 (by decide)
    · rw [List.map_map]
      exact ChangeMaps.nodup_of_eraseDups _ (by rw [List.length_map]; exact hdup)
    · intro y hy
      obtain ⟨x, hxm, rfl⟩ := List.mem_map.1 hy
      have := Array.all_eq_true'.1 hlt x (by simpa using hxm)
      simpa using this
    · intro k
      cases hk : kindsM k with
      | none =>
        rw [dGet_none]
        intro y hy e
        obtain ⟨x, hxm, rfl⟩ := List.mem_map.1 hy
        obtain ⟨h1, q, h2, h3⟩ := hx x hxm
        rw [← e] at hk
        rw [hk] at h2; cases h2
      | some q =>
        have hmem : k ∈ es.toList.map kOf := hkp.mem_iff.2 (by
          have hk4 : k = 1 ∨ k = 2 ∨ k = 3 ∨ k = 4 := by
            by_cases h1 : k = 1
            · exact .inl h1
            by_cases h2 : k = 2
            · exact .inr (.inl h2)
            by_cases h3 : k = 3
            · exact .inr (.inr (.inl h3))
            by_cases h4 : k = 4
            · exact .inr (.inr (.inr h4))
            · unfold kindsM at hk
              rw [if_neg h1, if_neg h2, if_neg h3, if_neg h4] at hk; cases hk
          rcases hk4 with rfl | rfl | rfl | rfl <;> decide)
        cases hg : dGet k (es.toList.map fun x => (kOf x, (kindsM (kOf x)).getD (0, 0), x.born)) with
        | none =>
          rw [dGet_none] at hg
          obtain ⟨x, hxm, e⟩ := List.mem_map.1 hmem
          exact absurd e (hg _ (List.mem_map_of_mem hxm))
        | some v =>
          obtain ⟨s, hs⟩ := dGet_mem hg
          obtain ⟨x, hxm, e⟩ := List.mem_map.1 hs
          have e1 : kOf x = k := congrArg (·.1) e
          have e2 : (kindsM (kOf x)).getD (0, 0) = v := congrArg (·.2.1) e
          rw [e1, hk] at e2
          rw [← e2]; rfl
set_option maxRecDepth 100000 in
theorem kinds_of_laid {W : World} (h : laidMetH Tryd.prog laidL W) : KindsAt W := by
  obtain ⟨g, t, cs, fuel, p, hg, ht, hv, hd⟩ := h.funcs (n := "aircheck/debt.kinds") (List.mem_cons_of_mem _ (List.mem_cons_self ..))
  obtain rfl := Option.some.inj ((show Tryd.prog.globalNamed "aircheck/debt.kinds" = some 0 by kernel_rfl).symm.trans hg)
  obtain rfl := Option.some.inj ((show (Tryd.prog.globals[0]?).map (·.type) = some 122 by kernel_rfl).symm.trans ht)
  have hd2 : DataW.trod (funcToken Tryd.prog) Tryd.prog W 0 (fun _ => true) true fuel 122 cs.toList = some (.map (DataW.funcsOutEntries _), p) := hd
  simp only [DataW.funcsOutEntries, DataW.funcsOut, DataW.funcsOutAll] at hd2
  obtain ⟨l⟩ := cs
  have hu := Tryd.underlying122
  have hone : ∃ v, l = [v] := by
    cases fuel with
    | zero => simp [DataW.trod] at hd2
    | succ n =>
      rw [DataW.trod_step] at hd2
      unfold DataW.trodStep at hd2
      simp only [hu] at hd2
      match l with
      | [] => simp at hd2
      | [v] => exact ⟨v, rfl⟩
      | _ :: _ :: _ => simp at hd2
  obtain ⟨v, rfl⟩ := hone
  have nm : ∀ {f : Nat} {c : UInt8} {r : List UInt8}, ((List.range Tryd.prog.funcs.size).filter fun f => (Tryd.prog.funcs[f]?).any (·.name.toUTF8.data.toList == c :: r)) = [f] → Nm f (.held (c :: r)) := fun {f c r} h => ⟨c, r, rfl, h⟩
  obtain ⟨b, rfl, hD⟩ := map_of_trod (nm (by kernel_rfl)) (nm (by kernel_rfl)) (nm (by kernel_rfl)) (nm (by kernel_rfl)) (nm (by kernel_rfl)) (nm (by kernel_rfl)) (nm (by kernel_rfl)) (nm (by kernel_rfl)) hd2
  have hc := fun j => World.var?_cell hg hv j
  refine ⟨b, ⟨?_, rfl, fun j u hj => ?_⟩, hD⟩
  · have h0 := hc 0
    show 0 < W.heap.size
    rcases Nat.lt_or_ge 0 W.heap.size with e | e
    · exact e
    · unfold World.cell? at h0
      rw [Array.getElem?_eq_none (by omega)] at h0
      simp at h0
  · rw [add_lit, Nat.zero_add, hc j]
    simpa using hj
theorem of_laid {W : World} (h : laidMetH Tryd.prog laidL W) : TblAt W ∧ KindsAt W := ⟨tbl_of_laid h, kinds_of_laid h⟩
end Go.Proofs.YtgdmaadikcnagaaDoor
