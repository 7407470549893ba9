import Derived.Test.YteplelijhkmbkaaDoorK
import Derived.Test.YteplelijhkmbkaaDoorGxMap
namespace Go.Proofs.YteplelijhkmbkaaDoor
open Go Go.Gx Go.RowKit
set_option linter.unusedVariables false
set_option linter.unusedSimpArgs false

abbrev eI : Int → Value := fun x => Value.int .i64 x
abbrev eB : Bool → Value := fun x => Value.bool x
abbrev eC : GContract → Value := fun x => Value.agg x.enc.toArray
abbrev eP : GSpot → Value := fun x => Value.agg x.enc.toArray
abbrev eD : GDay → Value := fun x => Value.agg x.enc.toArray
/-- A tally, in a world. -/
structure TalAt (w : World) (bt b1 b2 b3 b4 : Nat) (C : List (Int × GContract)) (Sp : List (GSpot × Bool)) (Mn : List (Int × Int)) (Dy : List (GDay × Int)) : Prop where
  box : CellsAt w ⟨bt, 0, none⟩ [.map (some b1), .map (some b2), .map (some b3), .map (some b4)]
  c : MapAt w b1 eI eC C
  s : MapAt w b2 eP eB Sp
  m : MapAt w b3 eI eI Mn
  d : MapAt w b4 eD eI Dy
theorem TalAt.mono {w w' : World} {bt b1 b2 b3 b4 : Nat} {C : List (Int × GContract)} {Sp : List (GSpot × Bool)} {Mn : List (Int × Int)} {Dy : List (GDay × Int)} (h : TalAt w bt b1 b2 b3 b4 C Sp Mn Dy) (hb : Below w.heap.size w w') : TalAt w' bt b1 b2 b3 b4 C Sp Mn Dy :=
  ⟨h.box.mono hb, h.c.mono hb, h.s.mono hb, h.m.mono hb, h.d.mono hb⟩
def onD (x : GSpot) : GDay := ⟨x.Contract, x.At / 86400⟩
theorem on_spec {x : GSpot} {w0 : World} (h0 : 0 ≤ x.At) (h1 : x.At ≤ 9999999) : CallsV Tryd.prog 54 #[.agg x.enc.toArray] w0 (.agg (onD x).enc.toArray) := by
  have S := St.start w0
  refine CallsV.mk ?_
  refine calls_enter Tryd.func54 rfl (by intro _ h; first | exact nomatch h.1 | (obtain ⟨_, h, _⟩ := h; exact nomatch h)) Tryd.ntmps54 rfl ?_
  repeat' (first | refine WP_seq ?_ | refine WP_region ?_ | refine wl_nil ?_ | refine then_normal ?_ | refine WP_ret ?_ | (refine g_b_quo ?_; (refine st_val rfl (r_quoN rfl rfl ?_ ?_ ?_) ?_; (first | omega | (simp <;> omega)); (first | omega | (simp <;> omega)); (first | omega | (simp <;> omega)))) | (refine g_build ?_; refine st_val rfl (bd84_0_1 rfl rfl) ?_) | (refine g_fieldAddr ?_; refine st_val rfl (r_fieldAddrL rfl) ?_) | (refine g_load ?_; refine st_val rfl (r_loadVar (i := 0) S rfl rfl rfl) ?_) | (refine g_box ?_; refine st_valE rfl (r_box S rfl) ?_; rintro _ w ⟨b, rfl, -, S'⟩; replace S := S'; clear S') | (refine g_alloc ?_; refine st_valE rfl (r_alloc S) ?_; rintro _ w ⟨b, rfl, -, S'⟩; replace S := S'; clear S') | (refine g_store ?_; first | (refine st_skipE rfl (r_storeVar (i := 0) S rfl rfl rfl rfl (of_decide_eq_true rfl) (of_decide_eq_true rfl)) ?_; intro w S'; replace S := S'; clear S') | (refine st_skipE rfl (r_storeVar (i := 1) S rfl rfl rfl rfl (of_decide_eq_true rfl) (of_decide_eq_true rfl)) ?_; intro w S'; replace S := S'; clear S')))
  exact endCellA rfl rfl S (i := 1) rfl rfl ⟨rfl, S.below⟩
def n1 (c : GContract) (x : GSpot) : Bool := decide (x.At < c.Window.From ∨ c.Window.To ≤ x.At)
def n2 (c : GContract) (x : GSpot) : Bool := !inW c.Week x.At
def n3 (Sp : List (GSpot × Bool)) (x : GSpot) : Bool := (mGet x Sp).getD false
def n4 (Mn : List (Int × Int)) (c : GContract) : Bool := decide (c.Count ≤ (mGet c.ID Mn).getD 0)
def n5 (Dy : List (GDay × Int)) (c : GContract) (x : GSpot) : Bool := decide (c.PerDay ≤ (mGet (onD x) Dy).getD 0)
def nearI (d c : GContract) (s : GSpot) (t : Int) : Bool := decide (d.Category = c.Category ∧ d.Sponsor ≠ c.Sponsor ∧ max (t - s.At) (s.At - t) < max c.Gap d.Gap)
def n6 (C : List (Int × GContract)) (Sp : List (GSpot × Bool)) (c : GContract) (x : GSpot) : Bool := Sp.any fun s => nearI ((mGet s.1.Contract C).getD default) c s.1 x.At
section
variable {w0 : World} {bt b1 b2 b3 b4 : Nat} {C : List (Int × GContract)} {Sp : List (GSpot × Bool)} {Mn : List (Int × Int)} {Dy : List (GDay × Int)} {c : GContract} {x : GSpot}
theorem t1_spec {v : Value} : CallsV Tryd.prog 81 #[v, .agg c.enc.toArray, .agg x.enc.toArray] w0 (.bool (n1 c x)) := by
  have S := St.start w0
  refine CallsV.mk ?_
  refine calls_enter Tryd.func81 rfl (by intro _ h; first | exact nomatch h.1 | (obtain ⟨_, h, _⟩ := h; exact nomatch h)) Tryd.ntmps81 rfl ?_
  repeat' (first | refine WP_seq ?_ | refine WP_region ?_ | refine wl_nil ?_ | refine then_normal ?_ | refine WP_ret ?_ | (refine g_guard ?_; refine st_off rfl ?_) | (refine g_move ?_; refine st_move rfl ?_) | (refine g_assign ?_; refine st_assign rfl ?_) | (refine g_pick ?_; first | refine st_pickT rfl rfl ?_ | refine st_pickF rfl rfl ?_) | (refine g_b_lss ?_; refine st_val rfl (r_lss rfl rfl) ?_) | (refine g_b_geq ?_; refine st_val rfl (r_geq rfl rfl) ?_) | (refine g_fieldAddr ?_; refine st_val rfl (r_fieldAddrL rfl) ?_) | (refine g_load ?_; first | refine st_val rfl (r_loadVar (i := 0) S rfl rfl rfl) ?_ | refine st_val rfl (r_loadVar (i := 1) S rfl rfl rfl) ?_) | (refine g_box ?_; refine st_valE rfl (r_box S rfl) ?_; rintro _ w ⟨b, rfl, -, S'⟩; replace S := S'; clear S') | (refine wl_split rfl rfl (fun h => ?_) (fun h => ?_) <;> (fail_if_success (have hh : true = true := h)) <;> (fail_if_success (have hh : false = false := h)) <;> (try simp only [decide_eq_true_eq, decide_eq_false_iff_not, Bool.not_eq_true', Bool.not_eq_false', Int.not_lt, Int.not_le] at h) <;> (try (exfalso; omega))))
  all_goals
    refine end1 rfl rfl ⟨rb ?_, S.below⟩
    unfold n1
    symm; first | (rw [decide_eq_true_eq]; omega) | (rw [decide_eq_decide]; omega)
theorem t2_spec {v : Value} : CallsV Tryd.prog 82 #[v, .agg c.enc.toArray, .agg x.enc.toArray] w0 (.bool (n2 c x)) := by
  have S := St.start w0
  refine CallsV.mk ?_
  refine calls_enter Tryd.func82 rfl (by intro _ h; first | exact nomatch h.1 | (obtain ⟨_, h, _⟩ := h; exact nomatch h)) Tryd.ntmps82 rfl ?_
  repeat' (first | refine WP_seq ?_ | refine WP_region ?_ | refine wl_nil ?_ | refine then_normal ?_ | refine WP_ret ?_ | (refine g_assign ?_; refine st_assign rfl ?_) | (refine g_un ?_; refine st_val rfl (r_not rfl) ?_) | (refine g_fieldAddr ?_; refine st_val rfl (r_fieldAddrL rfl) ?_) | (refine g_load ?_; first | refine st_val rfl (r_loadVarA (i := 0) S rfl rfl rfl rfl) ?_ | refine st_val rfl (r_loadVar (i := 1) S rfl rfl rfl) ?_) | (refine g_callV ?_; (refine st_callV rfl (r_call2 rfl rfl rfl) (inW_spec (k := c.Week) (t := x.At)) ?_; intro w hb; replace S := S.grow hb; clear hb)) | (refine g_box ?_; refine st_valE rfl (r_box S rfl) ?_; rintro _ w ⟨b, rfl, -, S'⟩; replace S := S'; clear S'))
  all_goals
    refine end1 rfl rfl ⟨rb ?_, S.below⟩
    unfold n2
    first | rfl | (simp_all; done)
theorem t3_spec (T : TalAt w0 bt b1 b2 b3 b4 C Sp Mn Dy) : CallsV Tryd.prog 83 #[.pointer (some ⟨bt, 0, none⟩), .agg c.enc.toArray, .agg x.enc.toArray] w0 (.bool (n3 Sp x)) := by
  have S := St.start w0
  refine CallsV.mk ?_
  refine calls_enter Tryd.func83 rfl (by intro _ h; first | exact nomatch h.1 | (obtain ⟨_, h, _⟩ := h; exact nomatch h)) Tryd.ntmps83 rfl ?_
  repeat' (first | refine WP_seq ?_ | refine WP_region ?_ | refine wl_nil ?_ | refine then_normal ?_ | refine WP_ret ?_ | refine WP_draw (by kernel_rfl) (by kernel_rfl) ?_ | (refine ql_nil ?_; intro w hb; replace S := S.grow hb; clear hb) | (refine g_assign ?_; refine st_assign rfl ?_) | (refine gq_move ?_; refine q_move rfl ?_) | (refine gq_assign ?_; refine q_assign rfl ?_) | (refine gq_nilCheck ?_; refine q_val rfl (fun w' hb => r_nilCheck rfl) ?_) | (refine gq_fieldAddr ?_; refine q_val rfl (fun w' hb => r_fieldAddrL rfl) ?_) | (refine gq_load ?_; first | refine q_val rfl (fun w' hb => r_loadAt (T.box.mono (S.grow hb).below) rfl rfl) ?_ | refine q_val rfl (fun w' hb => r_loadVarA (i := 1) (S.grow hb) rfl rfl rfl rfl) ?_) | (refine g_box ?_; refine st_valE rfl (r_box S rfl) ?_; rintro _ w ⟨b, rfl, -, S'⟩; replace S := S'; clear S') | (refine q_val rfl (fun w' hb => r_lookup1D (k := x) (eK := eP) (eV := eB) false rfl (T.s.mono (S.grow hb).below) rfl rfl) ?_))
  all_goals exact end1 rfl rfl ⟨rb (by first | rfl | assumption | (symm; assumption)), S.below⟩
theorem t4_spec (T : TalAt w0 bt b1 b2 b3 b4 C Sp Mn Dy) : CallsV Tryd.prog 84 #[.pointer (some ⟨bt, 0, none⟩), .agg c.enc.toArray, .agg x.enc.toArray] w0 (.bool (n4 Mn c)) := by
  have S := St.start w0
  refine CallsV.mk ?_
  refine calls_enter Tryd.func84 rfl (by intro _ h; first | exact nomatch h.1 | (obtain ⟨_, h, _⟩ := h; exact nomatch h)) Tryd.ntmps84 rfl ?_
  repeat' (first | refine WP_seq ?_ | refine WP_region ?_ | refine wl_nil ?_ | refine then_normal ?_ | refine WP_ret ?_ | refine WP_draw (by kernel_rfl) (by kernel_rfl) ?_ | (refine ql_nil ?_; intro w hb; replace S := S.grow hb; clear hb) | (refine g_assign ?_; refine st_assign rfl ?_) | (refine gq_move ?_; refine q_move rfl ?_) | (refine gq_assign ?_; refine q_assign rfl ?_) | (refine gq_b_geq ?_; refine q_val rfl (fun w' hb => r_geq rfl rfl) ?_) | (refine gq_nilCheck ?_; refine q_val rfl (fun w' hb => r_nilCheck rfl) ?_) | (refine gq_fieldAddr ?_; refine q_val rfl (fun w' hb => r_fieldAddrL rfl) ?_) | (refine gq_load ?_; first | refine q_val rfl (fun w' hb => r_loadAt (T.box.mono (S.grow hb).below) rfl rfl) ?_ | refine q_val rfl (fun w' hb => r_loadVar (i := 0) (S.grow hb) rfl rfl rfl) ?_) | (refine g_box ?_; refine st_valE rfl (r_box S rfl) ?_; rintro _ w ⟨b, rfl, -, S'⟩; replace S := S'; clear S') | (refine q_val rfl (fun w' hb => r_lookup1D (k := c.ID) (eK := eI) (eV := eI) 0 rfl (T.m.mono (S.grow hb).below) rfl rfl) ?_))
  all_goals (refine end1 rfl rfl ⟨rb ?_, S.below⟩; first | rfl | (unfold n4; simp_all; done))
theorem t5_spec (T : TalAt w0 bt b1 b2 b3 b4 C Sp Mn Dy) (h0 : 0 ≤ x.At) (h1 : x.At ≤ 9999999) : CallsV Tryd.prog 85 #[.pointer (some ⟨bt, 0, none⟩), .agg c.enc.toArray, .agg x.enc.toArray] w0 (.bool (n5 Dy c x)) := by
  have S := St.start w0
  refine CallsV.mk ?_
  refine calls_enter Tryd.func85 rfl (by intro _ h; first | exact nomatch h.1 | (obtain ⟨_, h, _⟩ := h; exact nomatch h)) Tryd.ntmps85 rfl ?_
  repeat' (first | refine WP_seq ?_ | refine WP_region ?_ | refine wl_nil ?_ | refine then_normal ?_ | refine WP_ret ?_ | refine WP_draw (by kernel_rfl) (by kernel_rfl) ?_ | (refine ql_nil ?_; intro w hb; replace S := S.grow hb; clear hb) | (refine g_assign ?_; refine st_assign rfl ?_) | (refine gq_move ?_; refine q_move rfl ?_) | (refine gq_assign ?_; refine q_assign rfl ?_) | (refine gq_b_geq ?_; refine q_val rfl (fun w' hb => r_geq rfl rfl) ?_) | (refine gq_nilCheck ?_; refine q_val rfl (fun w' hb => r_nilCheck rfl) ?_) | (refine gq_fieldAddr ?_; refine q_val rfl (fun w' hb => r_fieldAddrL rfl) ?_) | (refine gq_load ?_; first | refine q_val rfl (fun w' hb => r_loadAt (T.box.mono (S.grow hb).below) rfl rfl) ?_ | refine q_val rfl (fun w' hb => r_loadVar (i := 0) (S.grow hb) rfl rfl rfl) ?_ | refine q_val rfl (fun w' hb => r_loadVarA (i := 1) (S.grow hb) rfl rfl rfl rfl) ?_) | (refine gq_callV ?_; refine q_callV rfl (fun w' hb => r_call1 rfl rfl) (fun w' hb => on_spec h0 h1) ?_) | (refine g_box ?_; refine st_valE rfl (r_box S rfl) ?_; rintro _ w ⟨b, rfl, -, S'⟩; replace S := S'; clear S') | (refine q_val rfl (fun w' hb => r_lookup1D (k := onD x) (eK := eD) (eV := eI) 0 rfl (T.d.mono (S.grow hb).below) rfl rfl) ?_))
  all_goals (refine end1 rfl rfl ⟨rb ?_, S.below⟩; first | rfl | (unfold n5; simp_all; done))
end
end Go.Proofs.YteplelijhkmbkaaDoor
