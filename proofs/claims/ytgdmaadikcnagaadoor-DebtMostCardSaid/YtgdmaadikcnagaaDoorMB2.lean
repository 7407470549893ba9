/- Merged texts: DK, DL, DM, DO, DP, DQ, DR, DS, DT, EA, EB, EC, ED, EE. -/
import Derived.Test.YtgdmaadikcnagaaDoorMB1
import Derived.Test.YtgdmaadikcnagaaDoorMC1
import Derived.Test.YtgdmaadikcnagaaDoorMC2
import Derived.Test.YtgdmaadikcnagaaDoorMG2
/- One deed: whether it can be, and done. -/
namespace Go.Proofs.YtgdmaadikcnagaaDoor
open Go Go.Gx Go.RowKit
set_option linter.unusedVariables false
set_option linter.unusedSimpArgs false

abbrev eKd (p : Nat × Nat) : Value := .agg #[fnv p.1, fnv p.2]
/-- The kinds of deeds: what they need, and what they do. -/
def kindsM : Int → Option (Nat × Nat) := fun k => if k = 1 then some (128, 129) else if k = 2 then some (131, 133) else if k = 3 then some (135, 136) else if k = 4 then some (137, 138) else none
structure KindsAt (w : World) : Prop where
  ex : ∃ bk, CellsAt w ⟨0, 0, none⟩ [.map (some bk)] ∧ DMAt w bk eI eKd kindsM
theorem KindsAt.mono {w w' : World} (h : KindsAt w) (hb : Below w.heap.size w w') : KindsAt w' := by
  obtain ⟨bk, h1, h2⟩ := h.ex
  exact ⟨bk, h1.mono hb, h2.mono hb⟩
section
variable {w0 w : World} {bb b1 b2 : Nat} {last : Int} {s s' : Bk} {x : GDeed} {ex : List Ob}
def okIn (last : Int) (x : GDeed) : Prop := betw x.Count 1 50 = true ∧ betw x.At last 9999999 = true ∧ betw x.ID 0 199 = true
theorem into2 {os : List Ob} {o1 o2 : Ob} (S : St w0 w (o1 :: o2 :: (os ++ ex))) : St w0 w (os ++ (o1 :: o2 :: ex)) := S.perm (by
  refine ((List.Perm.cons o1 (List.perm_middle (a := o2) (l₁ := os) (l₂ := ex)).symm).trans ?_)
  exact (List.perm_middle (a := o1) (l₁ := os) (l₂ := o2 :: ex)).symm)
theorem outof2 {os : List Ob} {o1 o2 : Ob} (S : St w0 w (os ++ (o1 :: o2 :: ex))) : St w0 w (o1 :: o2 :: (os ++ ex)) := S.perm (by
  refine (List.perm_middle (a := o1) (l₁ := os) (l₂ := o2 :: ex)).trans (List.Perm.cons o1 ?_)
  exact List.perm_middle)
theorem wrong_none (S : St w0 w (BKs bb b1 b2 last s ex)) (hK : KindsAt w0) (hk : kindsM x.Kind = none) :
    CallsW Tryd.prog 33 #[.pointer (some ⟨bb, 0, none⟩), .agg x.enc.toArray] w (fun v w' => v = .bool true ∧ St w0 w' (BKs bb b1 b2 last s ex)) := by
  obtain ⟨bk, hK1, hK2⟩ := hK.ex
  refine CallsW.mk ?_
  refine calls_enter Tryd.func33 rfl (by intro _ h; first | exact nomatch h.1 | (obtain ⟨_, h, _⟩ := h; exact nomatch h)) Tryd.ntmps33 rfl ?_
  repeat' (first | refine WP_seq ?_ | refine WP_region ?_ | refine wl_nil ?_ | refine then_normal ?_ | refine then_ret ?_ | refine WP_ret ?_ | refine WP_condT rfl ?_ | refine WP_draw (by kernel_rfl) (by kernel_rfl) ?_ | (refine ql_nil ?_; intro w hb; replace S := S.grow hb; clear hb) | (refine g_move ?_; refine st_move rfl ?_) | (refine g_assign ?_; refine st_assign rfl ?_) | (refine g_extract ?_; refine st_val rfl (r_extract rfl rfl) ?_) | (refine g_fieldAddr ?_; refine st_val rfl (r_fieldAddrL rfl) ?_) | (refine g_load ?_; first | refine st_val rfl (r_loadAt (hK1.mono S.below) rfl rfl) ?_ | refine st_val rfl (r_loadVar (i := 0) S rfl rfl rfl) ?_) | (refine gq_guard ?_; refine q_off rfl ?_) | (refine gq_move ?_; refine q_move rfl ?_) | (refine gq_pick ?_; refine q_pickT rfl rfl ?_) | (refine gq_un ?_; refine q_val rfl (fun w' hb => r_not rfl) ?_) | (refine g_box ?_; refine st_valE rfl (r_box S rfl) ?_; rintro _ w ⟨b, rfl, -, S'⟩; replace S := S'.front; clear S') | (refine g_alloc ?_; refine st_valE rfl (r_alloc S) ?_; rintro _ w ⟨b, rfl, -, S'⟩; replace S := S'.front; clear S') | (refine g_store ?_; first | (refine st_skipE rfl (r_storeVar (i := 0) S rfl rfl rfl rfl (of_decide_eq_true rfl) (of_decide_eq_true rfl)) ?_; intro w S'; replace S := S'; clear S') | (refine st_skipE rfl (r_storeVar (i := 1) S rfl rfl rfl rfl (of_decide_eq_true rfl) (of_decide_eq_true rfl)) ?_; intro w S'; replace S := S'; clear S')) | (refine st_val rfl (r_lookupNM (k := x.Kind) (hK2.mono S.below) hk rfl rfl) ?_))
  all_goals exact end1 rfl rfl ⟨_, rfl, rfl, S.tail.tail⟩
set_option maxHeartbeats 2000000 in
theorem wrong_go {fc fd : Nat} {cb : Bool} [Go.Gx.Enters Tryd.prog fc] [Go.Gx.Enters Tryd.prog fd] (S : St w0 w (BKs bb b1 b2 last s ex)) (hK : KindsAt w0) (hk : kindsM x.Kind = some (fc, fd))
    (hcan : ∀ w', BkAt w' bb b1 b2 last s → okIn last x → CallsV Tryd.prog fc #[.pointer (some ⟨bb, 0, none⟩), .agg x.enc.toArray] w' (.bool cb))
    (hdo : cb = true → okIn last x → ∀ (ex' : List Ob) (w1 : World), St w0 w1 (BKs bb b1 b2 last s ex') → CallsW Tryd.prog fd #[.pointer (some ⟨bb, 0, none⟩), .agg x.enc.toArray] w1 (fun _ w' => St w0 w' (BKs bb b1 b2 last s' ex'))) :
    CallsW Tryd.prog 33 #[.pointer (some ⟨bb, 0, none⟩), .agg x.enc.toArray] w (fun v w' => (okIn last x ∧ cb = true ∧ v = .bool false ∧ St w0 w' (BKs bb b1 b2 x.At s' ex)) ∨ (¬ (okIn last x ∧ cb = true) ∧ v = .bool true ∧ St w0 w' (BKs bb b1 b2 last s ex))) := by
  obtain ⟨bk, hK1, hK2⟩ := hK.ex
  refine CallsW.mk ?_
  refine calls_enter Tryd.func33 rfl (by intro _ h; first | exact nomatch h.1 | (obtain ⟨_, h, _⟩ := h; exact nomatch h)) Tryd.ntmps33 rfl ?_
  by_cases hin : okIn last x
  · have hin' := hin
    obtain ⟨i1, i2, i3⟩ := hin'
    cases cb with
    | false =>
      repeat' (first | refine WP_seq ?_ | refine WP_region ?_ | refine wl_nil ?_ | refine then_normal ?_ | refine then_ret ?_ | refine WP_ret ?_ | refine WP_condT rfl ?_ | refine WP_draw (by kernel_rfl) (by kernel_rfl) ?_ | (refine ql_nil ?_; intro w hb; replace S := S.grow hb; clear hb) | (refine g_move ?_; refine st_move rfl ?_) | (refine g_assign ?_; refine st_assign rfl ?_) | (refine g_extract ?_; refine st_val rfl (r_extract rfl rfl) ?_) | (refine g_fieldAddr ?_; refine st_val rfl (r_fieldAddrL rfl) ?_) | (refine g_load ?_; first | refine st_val rfl (r_loadAt (hK1.mono S.below) rfl rfl) ?_ | refine st_val rfl (r_loadVar (i := 0) S rfl rfl rfl) ?_) | (refine gq_move ?_; refine q_move rfl ?_) | (refine gq_pick ?_; refine q_pickF rfl rfl ?_) | (refine gq_nilCheck ?_; refine q_val rfl (fun w' hb => r_nilCheck rfl) ?_) | (refine gq_un ?_; refine q_val rfl (fun w' hb => r_not rfl) ?_) | (refine gq_fieldAddr ?_; refine q_val rfl (fun w' hb => r_fieldAddrL rfl) ?_) | (refine gq_load ?_; first | refine q_val rfl (fun w' hb => r_loadVar (i := 0) (S.grow hb) rfl rfl rfl) ?_ | refine q_val rfl (fun w' hb => r_loadVar (i := 1) (S.grow hb) rfl rfl rfl) ?_ | refine q_val rfl (fun w' hb => r_loadVarA (i := 1) (S.grow hb) rfl rfl rfl rfl) ?_ | refine q_val rfl (fun w' hb => r_loadVar (i := 2) (S.grow hb) rfl rfl rfl) ?_) | (refine gq_callV ?_; first | refine q_callV rfl (fun w' hb => r_call3 rfl rfl rfl rfl) (fun w' hb => bt_spec) ?_ | refine q_callV rfl (fun w' hb => r_call2 rfl rfl rfl) (fun w' hb => (hcan _ ⟨(S.grow hb).var (i := 2) rfl, (S.grow hb).dmAt (i := 3) rfl, (S.grow hb).dmAt (i := 4) rfl⟩ hin)) ?_) | (refine g_box ?_; refine st_valE rfl (r_box S rfl) ?_; rintro _ w ⟨b, rfl, -, S'⟩; replace S := S'.front; clear S') | (refine g_alloc ?_; refine st_valE rfl (r_alloc S) ?_; rintro _ w ⟨b, rfl, -, S'⟩; replace S := S'.front; clear S') | (refine g_store ?_; first | (refine st_skipE rfl (r_storeVar (i := 0) S rfl rfl rfl rfl (of_decide_eq_true rfl) (of_decide_eq_true rfl)) ?_; intro w S'; replace S := S'; clear S') | (refine st_skipE rfl (r_storeVar (i := 1) S rfl rfl rfl rfl (of_decide_eq_true rfl) (of_decide_eq_true rfl)) ?_; intro w S'; replace S := S'; clear S') | (refine st_skipE rfl (r_storeVar (i := 2) S rfl rfl rfl rfl (of_decide_eq_true rfl) (of_decide_eq_true rfl)) ?_; intro w S'; replace S := S'; clear S')) | (refine st_val rfl (r_lookupSM (k := x.Kind) (hK2.mono S.below) hk rfl rfl) ?_) | (refine ql_split rfl rfl (fun h => ?_) (fun h => ?_) <;> (fail_if_success (have hh : true = true := h)) <;> (fail_if_success (have hh : false = false := h)) <;> (try simp only [decide_eq_true_eq, decide_eq_false_iff_not, Bool.not_eq_true', Bool.not_eq_false', Int.not_lt, Int.not_le] at h) <;> (try (exfalso; omega)) <;> (try (exfalso; (first | (rw [i1] at h; cases h) | (rw [i2] at h; cases h) | (rw [i3] at h; cases h)); done))))
      all_goals exact end1 rfl rfl ⟨_, rfl, .inr ⟨(by rintro ⟨_, h⟩; cases h), rfl, S.tail.tail⟩⟩
    | true =>
      have hdo := hdo rfl hin
      repeat' (first | refine WP_seq ?_ | refine WP_region ?_ | refine wl_nil ?_ | refine then_normal ?_ | refine WP_skip ?_ | refine WP_condF rfl ?_ | refine WP_draw (by kernel_rfl) (by kernel_rfl) ?_ | (refine ql_nil ?_; intro w hb; replace S := S.grow hb; clear hb) | (refine g_move ?_; refine st_move rfl ?_) | (refine g_assign ?_; refine st_assign rfl ?_) | (refine g_extract ?_; refine st_val rfl (r_extract rfl rfl) ?_) | (refine g_fieldAddr ?_; refine st_val rfl (r_fieldAddrL rfl) ?_) | (refine g_load ?_; first | refine st_val rfl (r_loadAt (hK1.mono S.below) rfl rfl) ?_ | refine st_val rfl (r_loadVar (i := 0) S rfl rfl rfl) ?_ | refine st_val rfl (r_loadVarA (i := 1) S rfl rfl rfl rfl) ?_) | (refine gq_move ?_; refine q_move rfl ?_) | (refine gq_pick ?_; refine q_pickF rfl rfl ?_) | (refine gq_nilCheck ?_; refine q_val rfl (fun w' hb => r_nilCheck rfl) ?_) | (refine gq_un ?_; refine q_val rfl (fun w' hb => r_not rfl) ?_) | (refine gq_fieldAddr ?_; refine q_val rfl (fun w' hb => r_fieldAddrL rfl) ?_) | (refine gq_load ?_; first | refine q_val rfl (fun w' hb => r_loadVar (i := 0) (S.grow hb) rfl rfl rfl) ?_ | refine q_val rfl (fun w' hb => r_loadVar (i := 1) (S.grow hb) rfl rfl rfl) ?_ | refine q_val rfl (fun w' hb => r_loadVarA (i := 1) (S.grow hb) rfl rfl rfl rfl) ?_ | refine q_val rfl (fun w' hb => r_loadVar (i := 2) (S.grow hb) rfl rfl rfl) ?_) | (refine gq_callV ?_; first | refine q_callV rfl (fun w' hb => r_call3 rfl rfl rfl rfl) (fun w' hb => bt_spec) ?_ | refine q_callV rfl (fun w' hb => r_call2 rfl rfl rfl) (fun w' hb => (hcan _ ⟨(S.grow hb).var (i := 2) rfl, (S.grow hb).dmAt (i := 3) rfl, (S.grow hb).dmAt (i := 4) rfl⟩ hin)) ?_) | (refine g_box ?_; refine st_valE rfl (r_box S rfl) ?_; rintro _ w ⟨b, rfl, -, S'⟩; replace S := S'.front; clear S') | (refine g_alloc ?_; refine st_valE rfl (r_alloc S) ?_; rintro _ w ⟨b, rfl, -, S'⟩; replace S := S'.front; clear S') | (refine g_store ?_; first | (refine st_skipE rfl (r_storeVar (i := 0) S rfl rfl rfl rfl (of_decide_eq_true rfl) (of_decide_eq_true rfl)) ?_; intro w S'; replace S := S'; clear S') | (refine st_skipE rfl (r_storeVar (i := 1) S rfl rfl rfl rfl (of_decide_eq_true rfl) (of_decide_eq_true rfl)) ?_; intro w S'; replace S := S'; clear S') | (refine st_skipE rfl (r_storeVar (i := 2) S rfl rfl rfl rfl (of_decide_eq_true rfl) (of_decide_eq_true rfl)) ?_; intro w S'; replace S := S'; clear S')) | (refine st_val rfl (r_lookupSM (k := x.Kind) (hK2.mono S.below) hk rfl rfl) ?_) | (refine ql_split rfl rfl (fun h => ?_) (fun h => ?_) <;> (fail_if_success (have hh : true = true := h)) <;> (fail_if_success (have hh : false = false := h)) <;> (try simp only [decide_eq_true_eq, decide_eq_false_iff_not, Bool.not_eq_true', Bool.not_eq_false', Int.not_lt, Int.not_le] at h) <;> (try (exfalso; omega)) <;> (try (exfalso; (first | (rw [i1] at h; cases h) | (rw [i2] at h; cases h) | (rw [i3] at h; cases h)); done))))
      refine st_callW rfl (r_call2 rfl rfl rfl) (hdo _ _ (into2 (os := BK3 bb b1 b2 last s) (ex := ex) S)) ?_
      intro _ w S'
      replace S := outof2 (os := BK3 bb b1 b2 last s') (ex := ex) S'
      clear S'
      repeat' (first | refine WP_seq ?_ | refine WP_region ?_ | refine wl_nil ?_ | refine then_normal ?_ | refine WP_ret ?_ | (refine g_move ?_; refine st_move rfl ?_) | (refine g_assign ?_; refine st_assign rfl ?_) | (refine g_nilCheck ?_; refine st_val rfl (r_nilCheck rfl) ?_) | (refine g_fieldAddr ?_; refine st_val rfl (r_fieldAddrL rfl) ?_) | (refine g_load ?_; refine st_val rfl (r_loadVar (i := 1) S rfl rfl rfl) ?_) | (refine g_store ?_; first | (refine st_skipE rfl (r_storeVar (i := 0) S rfl rfl rfl rfl (of_decide_eq_true rfl) (of_decide_eq_true rfl)) ?_; intro w S'; replace S := S'; clear S') | (refine st_skipE rfl (r_storeVar (i := 1) S rfl rfl rfl rfl (of_decide_eq_true rfl) (of_decide_eq_true rfl)) ?_; intro w S'; replace S := S'; clear S') | (refine st_skipE rfl (r_storeVar (i := 2) S rfl rfl rfl rfl (of_decide_eq_true rfl) (of_decide_eq_true rfl)) ?_; intro w S'; replace S := S'; clear S')))
      refine end1 rfl rfl ⟨_, rfl, .inl ⟨hin, rfl, rfl, S.tail.tail⟩⟩
  · repeat' (first | refine WP_seq ?_ | refine WP_region ?_ | refine wl_nil ?_ | refine then_normal ?_ | refine then_ret ?_ | refine WP_ret ?_ | refine WP_condT rfl ?_ | refine WP_draw (by kernel_rfl) (by kernel_rfl) ?_ | (refine ql_nil ?_; intro w hb; replace S := S.grow hb; clear hb) | (refine g_move ?_; refine st_move rfl ?_) | (refine g_assign ?_; refine st_assign rfl ?_) | (refine g_extract ?_; refine st_val rfl (r_extract rfl rfl) ?_) | (refine g_fieldAddr ?_; refine st_val rfl (r_fieldAddrL rfl) ?_) | (refine g_load ?_; first | refine st_val rfl (r_loadAt (hK1.mono S.below) rfl rfl) ?_ | refine st_val rfl (r_loadVar (i := 0) S rfl rfl rfl) ?_) | (refine gq_guard ?_; refine q_off rfl ?_) | (refine gq_move ?_; refine q_move rfl ?_) | (refine gq_pick ?_; first | refine q_pickT rfl rfl ?_ | refine q_pickF rfl rfl ?_) | (refine gq_nilCheck ?_; refine q_val rfl (fun w' hb => r_nilCheck rfl) ?_) | (refine gq_un ?_; refine q_val rfl (fun w' hb => r_not rfl) ?_) | (refine gq_fieldAddr ?_; refine q_val rfl (fun w' hb => r_fieldAddrL rfl) ?_) | (refine gq_load ?_; first | refine q_val rfl (fun w' hb => r_loadVar (i := 1) (S.grow hb) rfl rfl rfl) ?_ | refine q_val rfl (fun w' hb => r_loadVar (i := 2) (S.grow hb) rfl rfl rfl) ?_) | (refine gq_callV ?_; refine q_callV rfl (fun w' hb => r_call3 rfl rfl rfl rfl) (fun w' hb => bt_spec) ?_) | (refine g_box ?_; refine st_valE rfl (r_box S rfl) ?_; rintro _ w ⟨b, rfl, -, S'⟩; replace S := S'.front; clear S') | (refine g_alloc ?_; refine st_valE rfl (r_alloc S) ?_; rintro _ w ⟨b, rfl, -, S'⟩; replace S := S'.front; clear S') | (refine g_store ?_; first | (refine st_skipE rfl (r_storeVar (i := 0) S rfl rfl rfl rfl (of_decide_eq_true rfl) (of_decide_eq_true rfl)) ?_; intro w S'; replace S := S'; clear S') | (refine st_skipE rfl (r_storeVar (i := 1) S rfl rfl rfl rfl (of_decide_eq_true rfl) (of_decide_eq_true rfl)) ?_; intro w S'; replace S := S'; clear S') | (refine st_skipE rfl (r_storeVar (i := 2) S rfl rfl rfl rfl (of_decide_eq_true rfl) (of_decide_eq_true rfl)) ?_; intro w S'; replace S := S'; clear S')) | (refine st_val rfl (r_lookupSM (k := x.Kind) (hK2.mono S.below) hk rfl rfl) ?_) | (refine ql_split rfl rfl (fun h => ?_) (fun h => ?_) <;> (fail_if_success (have hh : true = true := h)) <;> (fail_if_success (have hh : false = false := h)) <;> (try simp only [decide_eq_true_eq, decide_eq_false_iff_not, Bool.not_eq_true', Bool.not_eq_false', Int.not_lt, Int.not_le] at h) <;> (try (exfalso; omega)) <;> (try (exfalso; exact hin ⟨by assumption, by assumption, by assumption⟩; done))))
    all_goals exact end1 rfl rfl ⟨_, rfl, .inr ⟨fun h => hin h.1, rfl, S.tail.tail⟩⟩
end
end Go.Proofs.YtgdmaadikcnagaaDoor
/- One deed: what becomes of the books. -/
namespace Go.Proofs.YtgdmaadikcnagaaDoor
open Go Go.Gx Go.RowKit
set_option linter.unusedVariables false
set_option linter.unusedSimpArgs false

/-- No debt has more than fifty. -/
def Cnt50 (l : List GDebt) : Prop := ∀ d ∈ l, d.Count ≤ 50
theorem cnt50_put {d : GDebt} {l : List GDebt} (h : Cnt50 l) (hd : d.Count ≤ 50) : Cnt50 (putD d l) := fun x hx => by
  rcases putD_mem.1 hx with rfl | hx
  · exact hd
  · exact h x hx
theorem cnt50_less {k n : Int} : ∀ {l : List GDebt}, Cnt50 l → 0 ≤ n → Cnt50 (lessD k n l)
  | [], h, _ => h
  | a :: r, h, hn => by
    have ha := h a (List.mem_cons_self ..)
    have hr : Cnt50 r := fun x hx => h x (List.mem_cons_of_mem _ hx)
    unfold lessD; split
    · split
      · exact hr
      · intro x hx
        rcases List.mem_cons.1 hx with rfl | hx
        · show a.Count - n ≤ 50; omega
        · exact hr x hx
    · intro x hx
      rcases List.mem_cons.1 hx with rfl | hx
      · exact ha
      · exact cnt50_less hr hn x hx
theorem doB_cnt50 {b c : Bk} {x : GDeed} (hb : Cnt50 b.op) (h : doB b x = some c) : Cnt50 c.op := by
  obtain ⟨_, _, _, _, _, h1, h2⟩ := doB_sums h
  unfold doB at h
  (repeat' split at h) <;> first | cases h | skip
  · exact cnt50_put hb h2
  · exact cnt50_less hb (by omega)
  · exact cnt50_put (cnt50_less hb (by omega)) h2
  · exact cnt50_less hb (by omega)
theorem step_kind {s s' : Bk} {last : Int} {x : GDeed} {cb : Bool} (hl : 0 ≤ last) (hd : doB s x = if inBO x = false then none else if cb = true then some s' else none) :
    (okIn last x ∧ cb = true → stepB (s, last) x = some (s', x.At)) ∧ (¬ (okIn last x ∧ cb = true) → stepB (s, last) x = none) := by
  constructor
  · rintro ⟨⟨h1, h2, h3⟩, hc⟩
    rw [betw_iff] at h2
    have hin : inBO x = true := by
      unfold inBO; rw [h1, h3, betw_iff.2 ⟨by omega, h2.2⟩]; rfl
    unfold stepB
    rw [if_pos h2.1, hd, hin, hc]; rfl
  · intro h
    unfold stepB
    by_cases hla : last ≤ x.At
    · rw [if_pos hla, hd]
      by_cases hin : inBO x = true
      · have hin' := hin
        unfold inBO at hin'
        simp only [Bool.and_eq_true] at hin'
        obtain ⟨⟨i1, i2⟩, i3⟩ := hin'
        rw [betw_iff] at i2
        have hc : ¬ cb = true := fun hc => h ⟨⟨i1, betw_iff.2 ⟨hla, i2.2⟩, i3⟩, hc⟩
        rw [hin, if_neg (by decide), if_neg hc]; rfl
      · have : inBO x = false := by simpa using hin
        rw [this]; rfl
    · rw [if_neg hla]
section
variable {w0 w : World} {bb b1 b2 : Nat} {last : Int} {s : Bk} {x : GDeed} {ex : List Ob}
/-- What a deed comes to. -/
def WrongP (w0 : World) (bb b1 b2 : Nat) (last : Int) (s : Bk) (x : GDeed) (ex : List Ob) (v : Value) (w' : World) : Prop := match stepB (s, last) x with
  | none => v = .bool true ∧ St w0 w' (BKs bb b1 b2 last s ex)
  | some t => v = .bool false ∧ St w0 w' (BKs bb b1 b2 t.2 t.1 ex)
theorem wrongP_of {s' : Bk} {cb : Bool} (hl : 0 ≤ last) (hd : doB s x = if inBO x = false then none else if cb = true then some s' else none)
    (h : CallsW Tryd.prog 33 #[.pointer (some ⟨bb, 0, none⟩), .agg x.enc.toArray] w (fun v w' => (okIn last x ∧ cb = true ∧ v = .bool false ∧ St w0 w' (BKs bb b1 b2 x.At s' ex)) ∨ (¬ (okIn last x ∧ cb = true) ∧ v = .bool true ∧ St w0 w' (BKs bb b1 b2 last s ex)))) :
    CallsW Tryd.prog 33 #[.pointer (some ⟨bb, 0, none⟩), .agg x.enc.toArray] w (WrongP w0 bb b1 b2 last s x ex) := by
  have hk := step_kind (last := last) hl hd
  refine ⟨Calls.mono h.out fun e w' ⟨v, he, hv⟩ => ⟨v, he, ?_⟩⟩
  unfold WrongP
  rcases hv with ⟨h1, h2, h3, h4⟩ | ⟨h1, h2, h3⟩
  · rw [hk.1 ⟨h1, h2⟩]; exact ⟨h3, h4⟩
  · rw [hk.2 h1]; exact ⟨h2, h3⟩
theorem wrong_run (S : St w0 w (BKs bb b1 b2 last s ex)) (hK : KindsAt w0) (hl : 0 ≤ last) (hok : BkOk s) (hc50 : Cnt50 s.op) (hsm : SmOk s.sums) :
    CallsW Tryd.prog 33 #[.pointer (some ⟨bb, 0, none⟩), .agg x.enc.toArray] w (WrongP w0 bb b1 b2 last s x ex) := by
  have hcnt : okIn last x → 1 ≤ x.Count ∧ x.Count ≤ 50 := fun h => betw_iff.1 h.1
  have hat : okIn last x → -1000000000 ≤ x.At ∧ x.At ≤ 1000000000 := fun h => by have := betw_iff.1 h.2.1; omega
  by_cases k1 : x.Kind = 1
  · refine wrongP_of (s' := oweB s x) (cb := canOwe s x) hl (by unfold doB; rw [if_pos k1]) ?_
    refine wrong_go S hK (fc := 128) (fd := 129) (by unfold kindsM; rw [if_pos k1]) (fun w' hB hin => owe_can hB (hat hin)) fun hcb hin ex' w1 S1 => ?_
    simp only [canOwe, Bool.and_eq_true] at hcb
    exact owe_do S1 (fresh_ne hcb.1.2 hok) (hcnt hin) hsm
  by_cases k2 : x.Kind = 2
  · refine wrongP_of (s' := serveB s x) (cb := canServe s x) hl (by unfold doB; rw [if_neg k1, if_pos k2]) ?_
    refine wrong_go S hK (fc := 131) (fd := 133) (by unfold kindsM; rw [if_neg k1, if_pos k2]) (fun w' hB hin => serve_can hB) fun hcb hin ex' w1 S1 => ?_
    simp only [canServe, Bool.and_eq_true] at hcb
    obtain ⟨d, h1, h2, h3⟩ := has_get hcb.1.2
    have h4 := hc50 d (getD_mem h1).1
    exact serve_do S1 hok.srt h1 (by omega) (hcnt hin) hsm
  by_cases k3 : x.Kind = 3
  · refine wrongP_of (s' := moveB s x (dueB s x)) (cb := canMove s x) hl (by unfold doB; rw [if_neg k1, if_neg k2, if_pos k3]) ?_
    refine wrong_go S hK (fc := 135) (fd := 136) (by unfold kindsM; rw [if_neg k1, if_neg k2, if_pos k3]) (fun w' hB hin => move_can hB) fun hcb hin ex' w1 S1 => ?_
    simp only [canMove, Bool.and_eq_true] at hcb
    obtain ⟨d, h1, h2, h3⟩ := has_get hcb.1.1.1.1
    have h4 := hc50 d (getD_mem h1).1
    exact move_do S1 hok.srt h1 (by omega) (fresh_ne hcb.1.1.2 hok) (hcnt hin) hsm
  by_cases k4 : x.Kind = 4
  · refine wrongP_of (s' := payB s x) (cb := canPay s x) hl (by unfold doB; rw [if_neg k1, if_neg k2, if_neg k3, if_pos k4]) ?_
    refine wrong_go S hK (fc := 137) (fd := 138) (by unfold kindsM; rw [if_neg k1, if_neg k2, if_neg k3, if_pos k4]) (fun w' hB hin => pay_can hB) fun hcb hin ex' w1 S1 => ?_
    simp only [canPay, Bool.and_eq_true] at hcb
    obtain ⟨d, h1, h2, h3⟩ := has_get hcb.2
    have h4 := hc50 d (getD_mem h1).1
    exact pay_do S1 hok.srt h1 (by omega) (hcnt hin) hsm
  · have hnone : stepB (s, last) x = none := by
      unfold stepB doB
      rw [if_neg k1, if_neg k2, if_neg k3, if_neg k4]
      (repeat' split) <;> rfl
    refine ⟨Calls.mono (wrong_none S hK (by unfold kindsM; rw [if_neg k1, if_neg k2, if_neg k3, if_neg k4])).out fun e w' ⟨v, he, hv⟩ => ⟨v, he, ?_⟩⟩
    unfold WrongP
    rw [hnone]; exact hv
/-- The books after some deeds. -/
structure BkRun (s : Bk) (n : Int) : Prop where
  ok : BkOk s
  c50 : Cnt50 s.op
  sm : 0 ≤ s.sums.Owed ∧ s.sums.Owed ≤ 50 * n ∧ 0 ≤ s.sums.Served ∧ s.sums.Served ≤ 50 * n ∧ 0 ≤ s.sums.Moved ∧ s.sums.Moved ≤ 50 * n ∧ 0 ≤ s.sums.Paid ∧ s.sums.Paid ≤ 50 * n
  len : (s.op.length : Int) ≤ n
theorem putD_len {d : GDebt} : ∀ {l : List GDebt}, (putD d l).length = l.length + 1
  | [] => rfl
  | a :: r => by unfold putD; split <;> simp [putD_len]
theorem lessD_len {k n : Int} : ∀ {l : List GDebt}, (lessD k n l).length ≤ l.length
  | [] => Nat.le_refl _
  | a :: r => by
    unfold lessD; split
    · split <;> simp
    · have := lessD_len (k := k) (n := n) (l := r)
      simp; omega
theorem BkRun.start : BkRun bk0 0 := ⟨bk0_ok, fun _ h => (by cases h), by simp [bk0], by simp [bk0]⟩
theorem BkRun.next {s c : Bk} {n : Int} {x : GDeed} (h : BkRun s n) (hd : doB s x = some c) : BkRun c (n + 1) := by
  obtain ⟨hk, s1, s2, s3, s4, c1, c2⟩ := doB_sums hd
  obtain ⟨m1, m2, m3, m4, m5, m6, m7, m8⟩ := h.sm
  refine ⟨doB_ok h.ok hd, doB_cnt50 h.c50 hd, ?_, ?_⟩
  · rw [s1, s2, s3, s4]
    (repeat' split) <;> omega
  · have hl := h.len
    unfold doB at hd
    (repeat' split at hd) <;> first | cases hd | skip
    · show ((putD _ s.op).length : Int) ≤ _; rw [putD_len]; omega
    · have := lessD_len (k := x.ID) (n := x.Count) (l := s.op)
      show ((lessD _ _ s.op).length : Int) ≤ _; omega
    · have := lessD_len (k := x.ID) (n := x.Count) (l := s.op)
      show ((putD _ (lessD _ _ s.op)).length : Int) ≤ _; rw [putD_len]; omega
    · have := lessD_len (k := x.ID) (n := x.Count) (l := s.op)
      show ((lessD _ _ s.op).length : Int) ≤ _; omega
theorem BkRun.smOk {s : Bk} {n : Int} (h : BkRun s n) (hn : n ≤ 1000) : SmOk s.sums := by
  obtain ⟨m1, m2, m3, m4, m5, m6, m7, m8⟩ := h.sm
  exact ⟨by omega, by omega, by omega, by omega⟩
theorem stepB_do {t t' : Bk × Int} {x : GDeed} (h : stepB t x = some t') : doB t.1 x = some t'.1 ∧ t'.2 = x.At ∧ t.2 ≤ x.At := by
  unfold stepB at h
  split at h
  · cases e2 : doB t.1 x with
    | none => rw [e2] at h; cases h
    | some c => rw [e2] at h; cases h; exact ⟨rfl, rfl, by assumption⟩
  · cases h
end
end Go.Proofs.YtgdmaadikcnagaaDoor
/- The first deed that cannot be. -/
namespace Go.Proofs.YtgdmaadikcnagaaDoor
open Go Go.Gx Go.RowKit
set_option linter.unusedVariables false
set_option linter.unusedSimpArgs false

theorem r_callB1 {P : Program} {ρ : Operand → Value} {w : World} {d : Option Tmp} {ty : TypeId} {pos : String} {af : Array Edge} {g : Option (Nat × Bool)} {f : FuncId} {fo : Operand} {a0 : Operand} {r v0 : Value} {cl : List Value} {ats : Array TypeId} (hf : ρ fo = .func (.func f) #[r] cl.toArray) [he : Go.Gx.Enters P f] (h0 : ρ a0 = v0) :
    Go.Gx.Runs P ρ ⟨d, .call { callee := .value fo, args := #[a0], argTypes := ats }, ty, pos, af, g⟩ w (.ok (.enter f (r :: v0 :: cl).toArray) w) :=
  ⟨by
    have e := he.out (r :: v0 :: cl).toArray w
    simp only [execOp, resolve, hf, Deferred.ofValue, List.map_toArray, List.map_cons, List.map_nil, h0] at *
    simpa [invoke, bind, Sem.bind, pure] using e⟩
abbrev wrongV (bb : Nat) : Value := .func (.func 33) #[.pointer (some ⟨bb, 0, none⟩)] [].toArray
/-- The books when all deeds, or those ahead of the first wrong one, were done. -/
def IdxP (w0 : World) (bb b1 b2 : Nat) (l : List GDeed) (ex : List Ob) (v : Value) (w' : World) : Prop := match badAt s0B l with
  | some i => v = .int .i64 (i : Int) ∧ ∃ t : Bk × Int, St w0 w' (BKs bb b1 b2 t.2 t.1 ex)
  | none => v = .int .i64 (-1) ∧ BkRun (bookOf s0B l).1 l.length ∧ St w0 w' (BKs bb b1 b2 (bookOf s0B l).2 (bookOf s0B l).1 ex)
theorem badAt_here {s : Bk × Int} {l r : List GDeed} {x : GDeed} (h : badAt s l = none) (hx : stepB (bookOf s l) x = none) : badAt s (l ++ x :: r) = some l.length := by
  rw [badAt_append s l _ h]
  simp [badAt, hx]
theorem badAt_more {s t : Bk × Int} {l : List GDeed} {x : GDeed} (h : badAt s l = none) (hx : stepB (bookOf s l) x = some t) : badAt s (l ++ [x]) = none ∧ bookOf s (l ++ [x]) = t := by
  rw [badAt_append s l _ h, bookOf_append s l _ h]
  simp [badAt, bookOf, hx]
theorem index_run {w0 w : World} {bb b1 b2 : Nat} {v : Value} {l : List GDeed} {ex : List Ob} (S : St w0 w (BKs bb b1 b2 0 bk0 ex)) (hK : KindsAt w0) (hr : Rd fGDeed.ty w0 v l) (hl : l.length ≤ 60) :
    CallsW Tryd.prog 32 #[v, wrongV bb] w (IdxP w0 bb b1 b2 l ex) := by
  obtain ⟨A, c, rfl⟩ := hr.len
  refine CallsW.mk ?_
  refine calls_enter Tryd.func32 rfl (by intro _ h; first | exact nomatch h.1 | (obtain ⟨_, h, _⟩ := h; exact nomatch h)) Tryd.ntmps32 rfl ?_
  repeat' (first | refine WP_seq ?_ | refine WP_region ?_ | refine wl_nil ?_ | refine then_normal ?_ | refine WP_block ?_ | (refine g_move ?_; refine st_move rfl ?_) | (refine g_assign ?_; refine st_assign rfl ?_) | (refine g_c_len ?_; refine st_val rfl (r_lenSlice rfl) ?_))
  refine WP_loop (fun k σ w1 => ∃ i : Int, Has σ [(0, .slice A l.length c), (1, wrongV bb), (7, .int .i64 l.length), (8, .int .i64 i)] ∧ badAt s0B (l.take i.toNat) = none ∧ BkRun (bookOf s0B (l.take i.toNat)).1 i ∧ 0 ≤ (bookOf s0B (l.take i.toNat)).2 ∧ St w0 w1 (BKs bb b1 b2 (bookOf s0B (l.take i.toNat)).2 (bookOf s0B (l.take i.toNat)).1 ex) ∧ 0 ≤ i ∧ i ≤ l.length ∧ k = l.length - i.toNat) l.length ⟨0, ⟨rfl, rfl, rfl, rfl, trivial⟩, rfl, BkRun.start, Int.le_refl _, S, by omega, by omega, by omega⟩ ?_
  clear S
  rintro k σ w1 ⟨i, hs, hb, hR, hla, S, hi0, hi1, rfl⟩
  refine WP_has hs ?_
  by_cases hi : i < l.length
  · have hspl : l = l.take i.toNat ++ nth l i :: l.drop (i + 1).toNat := by
      rw [← drop_nth hi0 hi, List.take_append_drop]
    have htl : (l.take i.toNat).length = i.toNat := by rw [List.length_take]; omega
    repeat' (first | refine WP_seq ?_ | refine WP_region ?_ | refine wl_nil ?_ | refine then_normal ?_ | refine WP_skip ?_ | refine WP_block ?_ | (refine g_move ?_; refine st_move rfl ?_) | (refine g_assign ?_; refine st_assign rfl ?_) | (refine g_b_lss ?_; refine st_val rfl (r_lss rfl rfl) ?_) | (refine g_indexAddr ?_; (refine st_val rfl (r_indexAddr (hr.mono S.below) rfl rfl ?_ ?_) ?_; (first | omega | (simp <;> omega)); (first | omega | (simp <;> omega)))) | (refine g_load ?_; (refine st_val rfl (r_loadElem (hr.mono S.below) rfl ?_ ?_) ?_; (first | omega | (simp <;> omega)); (first | omega | (simp <;> omega)))) | (refine WP_cond rfl (fun h => ?_) (fun h => ?_) <;> (fail_if_success (have hh : true = true := h)) <;> (fail_if_success (have hh : false = false := h)) <;> (try simp only [decide_eq_true_eq, decide_eq_false_iff_not, Bool.not_eq_true', Bool.not_eq_false', Int.not_lt, Int.not_le] at h) <;> (try (exfalso; omega))))
    refine st_callW rfl (r_callB1 (cl := []) rfl rfl) (wrong_run (x := nth l i) S hK hla hR.ok hR.c50 (hR.smOk (by omega))) ?_
    intro u w h
    unfold WrongP at h
    cases hx : stepB ((bookOf s0B (l.take i.toNat)).1, (bookOf s0B (l.take i.toNat)).2) (nth l i) with
    | none =>
      rw [hx] at h
      obtain ⟨rfl, S'⟩ := h
      repeat' (first | refine WP_seq ?_ | refine WP_region ?_ | refine wl_nil ?_ | refine then_normal ?_ | refine then_ret ?_ | refine inB_ret ?_ | refine WP_ret ?_ | refine WP_condT rfl ?_ | (refine g_move ?_; refine st_move rfl ?_) | (refine g_assign ?_; refine st_assign rfl ?_))
      refine end1 rfl rfl ⟨_, rfl, ?_⟩
      have e : badAt s0B l = some i.toNat := by
        have := badAt_here (r := l.drop (i + 1).toNat) hb hx
        rw [← hspl, htl] at this; exact this
      unfold IdxP
      rw [e]
      refine ⟨?_, _, S'⟩
      show Value.int .i64 i = _
      congr 1; omega
    | some t =>
      rw [hx] at h
      obtain ⟨rfl, S'⟩ := h
      obtain ⟨d1, d2, d3⟩ := stepB_do hx
      have hm := badAt_more hb hx
      rw [← take_snoc hi0 hi] at hm
      repeat' (first | refine WP_region ?_ | refine wl_nil ?_ | refine then_normal ?_ | refine inB_normal ?_ | refine WP_skip ?_ | refine WP_condF rfl ?_ | (refine g_move ?_; refine st_move rfl ?_) | (refine g_b_add ?_; (refine st_val rfl (r_addN rfl rfl ?_ ?_) ?_; (first | omega | (simp <;> omega)); (first | omega | (simp <;> omega)))))
      refine ⟨⟨_, ?_, i + 1, ⟨rfl, rfl, rfl, rfl, trivial⟩, hm.1, by rw [hm.2]; exact hR.next d1, by rw [hm.2]; simp only at d3; omega, by rw [hm.2]; exact S', by omega, by omega, rfl⟩⟩
      omega
  · rw [show i.toNat = l.length by omega, List.take_length] at hb hR S
    repeat' (first | refine WP_seq ?_ | refine WP_region ?_ | refine wl_nil ?_ | refine then_normal ?_ | refine then_exit ?_ | refine inB_here ?_ | refine WP_ret ?_ | refine WP_exit ?_ | (refine g_assign ?_; refine st_assign rfl ?_) | (refine g_b_lss ?_; refine st_val rfl (r_lss rfl rfl) ?_) | (refine WP_cond rfl (fun h => ?_) (fun h => ?_) <;> (fail_if_success (have hh : true = true := h)) <;> (fail_if_success (have hh : false = false := h)) <;> (try simp only [decide_eq_true_eq, decide_eq_false_iff_not, Bool.not_eq_true', Bool.not_eq_false', Int.not_lt, Int.not_le] at h) <;> (try (exfalso; omega))))
    refine end1 rfl rfl ⟨_, rfl, ?_⟩
    unfold IdxP
    rw [hb]
    exact ⟨rfl, by rw [show (l.length : Int) = i by omega]; exact hR, S⟩
end Go.Proofs.YtgdmaadikcnagaaDoor
/- Fold. -/
namespace Go.Proofs.YtgdmaadikcnagaaDoor
open Go Go.Gx Go.RowKit
set_option linter.unusedVariables false
set_option linter.unusedSimpArgs false

theorem mapM_four {α β : Type} {f : α → Sem β} {a a2 a3 a4 : α} {b b2 b3 b4 : β} {P : Program} {w w1 w2 w3 w4 : World} (h : (f a).run P w = .ok b w1) (h2 : (f a2).run P w1 = .ok b2 w2) (h3 : (f a3).run P w2 = .ok b3 w3) (h4 : (f a4).run P w3 = .ok b4 w4) : (#[a, a2, a3, a4].mapM f).run P w = .ok #[b, b2, b3, b4] w4 := by
  have e : (#[a, a2, a3, a4] : Array α).mapM f = (do let l ← [a, a2, a3, a4].mapM f; pure l.toArray) := by
    rw [Array.mapM_eq_mapM_toList]; rfl
  rw [e, List.mapM_cons, List.mapM_cons, List.mapM_cons, List.mapM_cons]
  simp only [List.mapM_nil, bind_assoc, pure_bind]
  exact (run_bind h).trans ((run_bind h2).trans ((run_bind h3).trans ((run_bind h4).trans rfl)))
theorem endTCTT {P : Program} {fn : Func} {n : Nat} {R : Ending → World → Prop} {σ : Nat → Value} {w0 w : World} {t u x y T sz b i : Nat} {os : List Ob} {T' : TypeId} {cs : List Value} {v v3 v4 : Value} [hT : TF P T true sz]
    (hr : fn.results = #[.tmp t, .cell u T, .tmp x, .tmp y]) (hv : cut n σ t = v) (hu : cut n σ u = .pointer (some ⟨b, 0, none⟩)) (hx : cut n σ x = v3) (hy : cut n σ y = v4) (S : St w0 w os) (hi : os[i]? = some (.var b T' cs)) (hl : cs.length = sz) (h : R (.returned (.tuple #[v, .agg cs.toArray, v3, v4])) w) : endQ P fn n R .ret σ w := by
  refine endC ?_ h
  unfold results
  rw [hr]
  refine (run_bind (mapM_four (b := v) (b2 := .agg cs.toArray) (b3 := v3) (b4 := v4) (w1 := w) (w2 := w) (w3 := w) (w4 := w) ?_ ?_ ?_ ?_)).trans rfl
  · show (pure ((Go.Gx.Fr n σ).tmps.getD t undef) : Sem Value).run P w = _
    rw [Fr_getD, hv]; rfl
  · show (do loadVar T (← asAddr ((Go.Gx.Fr n σ).tmps.getD u undef)) : Sem Value).run P w = _
    rw [Fr_getD, hu]
    exact loadVarA S hi hl
  · show (pure ((Go.Gx.Fr n σ).tmps.getD x undef) : Sem Value).run P w = _
    rw [Fr_getD, hx]; rfl
  · show (pure ((Go.Gx.Fr n σ).tmps.getD y undef) : Sem Value).run P w = _
    rw [Fr_getD, hy]; rfl
/-- What Fold returns. -/
structure FoldR (l : List GDeed) (w : World) (v : Value) (w' : World) : Prop where
  ex : ∃ (vd : Value) (ds : List GDebt) (sm : GSums) (n er : Int), v = .tuple #[vd, .agg sm.enc.toArray, .int .i64 n, .int .i64 er] ∧ NewRow fGDebt 33 w w' vd ds ∧ foldI l = (ds, sm, n, er)
theorem foldI_bad {l : List GDeed} {i : Nat} (h : badAt s0B (l.take 60) = some i) : foldI l = ([], GSums.mk 0 0 0 0 0, (i : Int), 140) := by unfold foldI; rw [h]
theorem foldI_long {l : List GDeed} (h : badAt s0B (l.take 60) = none) (hl : 60 < l.length) : foldI l = ([], GSums.mk 0 0 0 0 0, 60, 140) := by unfold foldI; rw [h]; simp only; rw [if_pos hl]
theorem foldI_ok {l : List GDeed} (h : badAt s0B l = none) (hl : l.length ≤ 60) : foldI l = ((bookOf s0B l).1.op, openS (bookOf s0B l).1, (l.length : Int), 0) := by
  unfold foldI; rw [List.take_of_length_le hl, h]; simp only; rw [if_neg (by omega)]
set_option maxHeartbeats 2000000 in
theorem fold_run {l : List GDeed} {v : Value} {w0 : World} (hK : KindsAt w0) (hr : Rd fGDeed.ty w0 v l) (hl : l.length ≤ 1000000000) : CallsR Tryd.prog 12 #[v] w0 (FoldR l w0) := by
  have S := St.start w0
  obtain ⟨A, c, rfl⟩ := hr.len
  refine CallsR.mk ?_
  refine calls_enter Tryd.func12 rfl (by intro _ h; first | exact nomatch h.1 | (obtain ⟨_, h, _⟩ := h; exact nomatch h)) Tryd.ntmps12 rfl ?_
  repeat' (first | refine WP_seq ?_ | refine WP_region ?_ | (refine g_assign ?_; refine st_assign rfl ?_))
  refine g_alloc ?_
  refine st_valE rfl (r_alloc S) ?_
  rintro _ w ⟨br, rfl, -, S'⟩; replace S := S'; clear S'
  repeat' (first | refine WP_seq ?_ | refine WP_region ?_ | refine wl_nil ?_ | refine then_normal ?_ | (refine g_assign ?_; refine st_assign rfl ?_))
  refine st_valE rfl (r_makeMapD eI eDt S) ?_
  rintro _ w ⟨b1, rfl, -, S'⟩; replace S := S'; clear S'
  refine st_valE rfl (r_makeMapD eI eB S) ?_
  rintro _ w ⟨b2, rfl, -, S'⟩; replace S := S'; clear S'
  repeat' (first | refine WP_seq ?_ | refine WP_region ?_ | refine wl_nil ?_ | refine then_normal ?_ | (refine g_move ?_; refine st_move rfl ?_) | (refine g_assign ?_; refine st_assign rfl ?_) | (refine g_build ?_; refine st_val rfl (bd93_0_1 rfl rfl) ?_) | (refine g_c_min ?_; refine st_val rfl (r_min2 rfl rfl) ?_) | (refine g_c_len ?_; refine st_val rfl (r_lenSlice rfl) ?_) | (refine g_box ?_; refine st_valE rfl (r_box S rfl) ?_; rintro _ w ⟨b, rfl, -, S'⟩; replace S := S'.front; clear S'))
  replace S : St w0 w (BKs b b1 b2 0 bk0 [.var br 28 (GSums.mk 0 0 0 0 0).enc]) := S.perm (List.Perm.cons _ (List.perm_middle (l₁ := [_, _]) (l₂ := [])).symm)
  have hcut := hr.cut (lo := 0) (hi := (min (l.length : Int) 60).toNat) (by omega) (by omega)
  rw [List.drop_zero] at hcut
  have htk : l.take (min (l.length : Int) 60).toNat = l.take 60 := by
    by_cases h : l.length ≤ 60
    · rw [List.take_of_length_le h, List.take_of_length_le (by omega)]
    · congr 1; omega
  rw [htk] at hcut
  have htl : (l.take 60).length ≤ 60 := by rw [List.length_take]; omega
  repeat' (first | (refine g_move ?_; refine st_move rfl ?_) | (refine g_makeFunc ?_; refine st_val rfl (r_makeFnB1 rfl) ?_) | (refine st_val rfl (r_sliceHi (hr.mono S.below) rfl rfl ?_ ?_) ?_; omega; omega))
  refine st_callW rfl (r_call2 rfl rfl rfl) (index_run S hK hcut htl) ?_
  intro u w h
  unfold IdxP at h
  cases hb : badAt s0B (l.take 60) with
  | some i =>
    rw [hb] at h
    obtain ⟨rfl, t, S'⟩ := h
    replace S := S'; clear S'
    repeat' (first | refine WP_seq ?_ | refine WP_region ?_ | refine wl_nil ?_ | refine then_normal ?_ | refine then_ret ?_ | refine WP_ret ?_ | refine WP_skip ?_ | refine WP_condT rfl ?_ | refine WP_condF rfl ?_ | (refine g_guard ?_; refine st_off rfl ?_) | (refine g_move ?_; refine st_move rfl ?_) | (refine g_assign ?_; refine st_assign rfl ?_) | (refine g_pick ?_; refine st_pickF rfl rfl ?_) | (refine g_b_lss ?_; refine st_val rfl (r_lss rfl rfl) ?_) | (refine g_b_geq ?_; refine st_val rfl (r_geq rfl rfl) ?_) | (refine g_build ?_; refine st_val rfl (bd28_ ) ?_) | (refine g_store ?_; first | (refine st_skipE rfl (r_storeVar (i := 0) S rfl rfl rfl rfl (of_decide_eq_true rfl) (of_decide_eq_true rfl)) ?_; intro w S'; replace S := S'; clear S') | (refine st_skipE rfl (r_storeVar (i := 1) S rfl rfl rfl rfl (of_decide_eq_true rfl) (of_decide_eq_true rfl)) ?_; intro w S'; replace S := S'; clear S') | (refine st_skipE rfl (r_storeVar (i := 2) S rfl rfl rfl rfl (of_decide_eq_true rfl) (of_decide_eq_true rfl)) ?_; intro w S'; replace S := S'; clear S') | (refine st_skipE rfl (r_storeVar (i := 3) S rfl rfl rfl rfl (of_decide_eq_true rfl) (of_decide_eq_true rfl)) ?_; intro w S'; replace S := S'; clear S')))
    refine endTCTT rfl rfl rfl rfl rfl S (i := 3) rfl rfl ⟨_, rfl, S.below, ⟨_, [], GSums.mk 0 0 0 0 0, i, 140, rfl, NewRow.nil _ _ _ _, foldI_bad hb⟩⟩
  | none =>
    rw [hb] at h
    obtain ⟨rfl, hR, S'⟩ := h
    replace S := S'; clear S'
    by_cases hlong : 60 < l.length
    · repeat' (first | refine WP_seq ?_ | refine WP_region ?_ | refine wl_nil ?_ | refine then_normal ?_ | refine then_ret ?_ | refine WP_ret ?_ | refine WP_condT rfl ?_ | (refine g_move ?_; refine st_move rfl ?_) | (refine g_assign ?_; refine st_assign rfl ?_) | (refine g_pick ?_; refine st_pickT rfl rfl ?_) | (refine g_b_lss ?_; refine st_val rfl (r_lss rfl rfl) ?_) | (refine g_b_gtr ?_; refine st_val rfl (r_gtr rfl rfl) ?_) | (refine g_b_geq ?_; refine st_val rfl (r_geq rfl rfl) ?_) | (refine g_build ?_; refine st_val rfl (bd28_ ) ?_) | (refine g_c_len ?_; refine st_val rfl (r_lenSlice rfl) ?_) | (refine g_store ?_; first | (refine st_skipE rfl (r_storeVar (i := 0) S rfl rfl rfl rfl (of_decide_eq_true rfl) (of_decide_eq_true rfl)) ?_; intro w S'; replace S := S'; clear S') | (refine st_skipE rfl (r_storeVar (i := 1) S rfl rfl rfl rfl (of_decide_eq_true rfl) (of_decide_eq_true rfl)) ?_; intro w S'; replace S := S'; clear S') | (refine st_skipE rfl (r_storeVar (i := 2) S rfl rfl rfl rfl (of_decide_eq_true rfl) (of_decide_eq_true rfl)) ?_; intro w S'; replace S := S'; clear S') | (refine st_skipE rfl (r_storeVar (i := 3) S rfl rfl rfl rfl (of_decide_eq_true rfl) (of_decide_eq_true rfl)) ?_; intro w S'; replace S := S'; clear S')) | (refine WP_cond rfl (fun h => ?_) (fun h => ?_) <;> (fail_if_success (have hh : true = true := h)) <;> (fail_if_success (have hh : false = false := h)) <;> (try simp only [decide_eq_true_eq, decide_eq_false_iff_not, Bool.not_eq_true', Bool.not_eq_false', Int.not_lt, Int.not_le] at h) <;> (try (exfalso; omega))))
      refine endTCTT rfl rfl rfl rfl rfl S (i := 3) rfl rfl ⟨_, rfl, S.below, ⟨_, [], GSums.mk 0 0 0 0 0, 60, 140, rfl, NewRow.nil _ _ _ _, foldI_long hb hlong⟩⟩
    · rw [List.take_of_length_le (by omega)] at hb hR S
      repeat' (first | refine WP_seq ?_ | refine WP_region ?_ | refine wl_nil ?_ | refine then_normal ?_ | refine WP_skip ?_ | refine WP_condF rfl ?_ | (refine g_move ?_; refine st_move rfl ?_) | (refine g_assign ?_; refine st_assign rfl ?_) | (refine g_pick ?_; refine st_pickT rfl rfl ?_) | (refine g_b_lss ?_; refine st_val rfl (r_lss rfl rfl) ?_) | (refine g_b_gtr ?_; refine st_val rfl (r_gtr rfl rfl) ?_) | (refine g_b_geq ?_; refine st_val rfl (r_geq rfl rfl) ?_) | (refine g_nilCheck ?_; refine st_val rfl (r_nilCheck rfl) ?_) | (refine g_c_len ?_; refine st_val rfl (r_lenSlice rfl) ?_) | (refine g_fieldAddr ?_; refine st_val rfl (r_fieldAddrL rfl) ?_) | (refine g_load ?_; refine st_val rfl (r_loadVar (i := 0) S rfl rfl rfl) ?_) | (refine WP_cond rfl (fun h => ?_) (fun h => ?_) <;> (fail_if_success (have hh : true = true := h)) <;> (fail_if_success (have hh : false = false := h)) <;> (try simp only [decide_eq_true_eq, decide_eq_false_iff_not, Bool.not_eq_true', Bool.not_eq_false', Int.not_lt, Int.not_le] at h) <;> (try (exfalso; omega))))
      have hfold := foldI_ok hb (by omega)
      have hlen := hR.len
      have hc50 := hR.c50
      have hok := hR.ok
      clear hb hcut htk htl hR
      generalize hs0 : (bookOf s0B l).1 = s at S hfold hlen hc50 hok
      generalize (bookOf s0B l).2 = last at S
      have hrng : ∀ d ∈ s.op, 0 ≤ d.ID ∧ d.ID ≤ 199 := fun d hd => hok.rng _ (hok.used d hd)
      refine st_callR rfl (r_call1 rfl rfl) keys_spec ?_
      rintro _ w hb ⟨bx, rfl, hbx, hcell⟩; replace S := S.grow hb; clear hb
      refine st_callR rfl (r_call1 rfl rfl) (sorted_spec (S.dmAt (i := 1) rfl) hok.srt hrng (by omega) hbx hcell) ?_
      rintro vi w hb hrow; replace S := S.new hb hrow; clear hb hrow hbx hcell
      have hri := S.rdRow (D := fInt .i64) (i := 4) rfl
      obtain ⟨Ai, ci, hz⟩ := hri.len; subst hz
      clear hri
      have hil : (idsD s.op).length = s.op.length := List.length_map ..
      replace S := St.nilRow fGDebt 33 S
      have hopn : s.sums.Open = 0 := hok.opn
      repeat' (first | refine wl_nil ?_ | refine then_normal ?_ | refine WP_block ?_ | (refine g_move ?_; refine st_move rfl ?_) | (refine g_c_len ?_; refine st_val rfl (r_lenSlice rfl) ?_))
      refine WP_loop (fun k σ w1 => ∃ (i : Int) (vo : Value), Has σ [(0, .slice A l.length c), (3, .pointer (some ⟨br, 0, none⟩)), (6, .pointer (some ⟨b, 0, none⟩)), (8, vo), (39, .slice Ai (idsD s.op).length ci), (40, .int .i64 s.op.length), (41, .int .i64 i)] ∧
        St w0 w1 (BKs b b1 b2 last ⟨s.op, s.used, GSums.mk s.sums.Owed s.sums.Served s.sums.Moved s.sums.Paid (cntA (s.op.take i.toNat))⟩ [.var br 28 (GSums.mk 0 0 0 0 0).enc, rowOb (fInt .i64) 3 (.slice Ai (idsD s.op).length ci) (idsD s.op), rowOb fGDebt 33 vo (s.op.take i.toNat)]) ∧ 0 ≤ cntA (s.op.take i.toNat) ∧ cntA (s.op.take i.toNat) ≤ 50 * i ∧ 0 ≤ i ∧ i ≤ s.op.length ∧ k = s.op.length - i.toNat) s.op.length ⟨0, _, ⟨rfl, rfl, rfl, rfl, rfl, by rw [← hil]; rfl, rfl, trivial⟩, ?_, by simp [cntA], by simp [cntA], by omega, by omega, by omega⟩ ?_
      · have e : GSums.mk s.sums.Owed s.sums.Served s.sums.Moved s.sums.Paid (cntA (s.op.take (0 : Int).toNat)) = s.sums := by
          cases hsm : s.sums; rw [hsm] at hopn; simp at hopn; subst hopn; rfl
        rw [e]; exact S
      clear S
      rintro k σ w1 ⟨i, vo, hs', S, hc0, hc1, hi0, hi1, rfl⟩
      refine WP_has hs' ?_
      by_cases hi : i < s.op.length
      · have hm := mem_nth hi0 hi
        have hg : opM s.op (nth s.op i).ID = some (nth s.op i) := by
          unfold opM
          cases e : getD (nth s.op i).ID s.op with
          | none => exact absurd rfl (getD_none e _ hm)
          | some d =>
            obtain ⟨h1, h2⟩ := getD_mem e
            congr 1
            obtain ⟨j, a, q, hj⟩ := mem_drop (l := s.op) (i := 0) (by omega) (by simpa using h1)
            have hpw := List.pairwise_iff_getElem.1 hok.srt
            obtain ⟨hj1, hj2⟩ := List.getElem?_eq_some_iff.1 (nth_get (l := s.op) (i := j) a q)
            obtain ⟨hi1', hi2⟩ := List.getElem?_eq_some_iff.1 (nth_get (l := s.op) (i := i) hi0 hi)
            rw [hj] at hj2
            rcases Int.lt_trichotomy j i with hh | hh | hh
            · have := hpw j.toNat i.toNat hj1 hi1' (by omega)
              rw [hj2, hi2] at this; omega
            · subst hh; exact hj.symm
            · have := hpw i.toNat j.toNat hi1' hj1 (by omega)
              rw [hj2, hi2] at this; omega
        have hid : nth (idsD s.op) i = (nth s.op i).ID := by
          have h1 := nth_get (l := idsD s.op) (i := i) hi0 (by omega)
          have h2 := nth_get (l := s.op) (i := i) hi0 hi
          unfold idsD at h1
          rw [List.getElem?_map, h2] at h1
          exact (Option.some.inj h1).symm
        have hg' : opM s.op (nth (idsD s.op) i) = some (nth s.op i) := by rw [hid]; exact hg
        have hc := hc50 _ hm
        have hps := hok.pos _ hm
        have htl := take_snoc hi0 hi
        have hsum : cntA (s.op.take i.toNat) + (nth s.op i).Count = cntA (s.op.take (i + 1).toNat) := by
          rw [htl, cntA_append]; simp [cntA]
        have hlr : (s.op.take i.toNat).length ≤ 60 := by rw [List.length_take]; omega
        repeat' (first | refine WP_seq ?_ | refine WP_region ?_ | refine wl_nil ?_ | refine then_normal ?_ | refine WP_skip ?_ | refine WP_block ?_ | (refine g_move ?_; refine st_move rfl ?_) | (refine g_assign ?_; refine st_assign rfl ?_) | (refine g_b_lss ?_; refine st_val rfl (r_lss rfl rfl) ?_) | (refine g_nilCheck ?_; refine st_val rfl (r_nilCheck rfl) ?_) | (refine g_fieldAddr ?_; refine st_val rfl (r_fieldAddrL rfl) ?_) | (refine g_indexAddr ?_; (refine st_val rfl (r_indexAddr (S.rdRow (D := (fInt .i64)) (i := 4) rfl) rfl rfl ?_ ?_) ?_; (first | omega | (simp <;> omega)); (first | omega | (simp <;> omega)))) | (refine g_load ?_; first | (refine st_val rfl (r_loadElem1 (S.rdRow (D := (fInt .i64)) (i := 4) rfl) rfl ?_ ?_ rfl) ?_; (first | omega | (simp <;> omega)); (first | omega | (simp <;> omega))) | refine st_val rfl (r_loadVar (i := 0) S rfl rfl rfl) ?_) | (refine st_val rfl (r_lookup1S (k := nth (idsD s.op) i) (S.dmAt (i := 1) rfl) hg' rfl rfl) ?_) | (refine WP_cond rfl (fun h => ?_) (fun h => ?_) <;> (fail_if_success (have hh : true = true := h)) <;> (fail_if_success (have hh : false = false := h)) <;> (try simp only [decide_eq_true_eq, decide_eq_false_iff_not, Bool.not_eq_true', Bool.not_eq_false', Int.not_lt, Int.not_le] at h) <;> (try (exfalso; omega))))
        refine st_valE rfl (r_litF (D := fGDebt) [nth s.op i] (fun y => .agg y.enc.toArray) S rfl rfl (fun _ => rfl) rfl (by decide) (by decide)) ?_
        rintro _ w ⟨bl, rfl, -, hcl, S'⟩; replace S := S'; clear S'
        refine st_valE rfl (r_append1 (D := fGDebt) (i := 5) (b := bl) (x := nth s.op i) S rfl rfl rfl (fl_one hcl) rfl (by decide) (one_d _) (by omega) (by omega)) ?_
        rintro vo' w ⟨-, S'⟩; replace S := S'; clear S' hcl
        rw [← htl] at S
        repeat' (first | refine WP_region ?_ | refine wl_nil ?_ | refine then_normal ?_ | refine inB_normal ?_ | refine WP_drawTail 16 (by kernel_rfl) (by decide +kernel) ?_ | (refine ql_nil ?_; intro w hb; replace S := S.grow hb; clear hb) | (refine g_move ?_; refine st_move rfl ?_) | (refine g_assign ?_; refine st_assign rfl ?_) | (refine g_b_add ?_; (refine st_val rfl (r_addN rfl rfl ?_ ?_) ?_; (first | omega | (simp <;> omega)); (first | omega | (simp <;> omega)))) | (refine gq_move ?_; refine q_move rfl ?_) | (refine gq_b_add ?_; (refine q_val rfl (fun w' hb => r_addN rfl rfl ?_ ?_) ?_; (first | omega | (simp <;> omega)); (first | omega | (simp <;> omega)))) | (refine gq_nilCheck ?_; refine q_val rfl (fun w' hb => r_nilCheck rfl) ?_) | (refine gq_fieldAddr ?_; refine q_val rfl (fun w' hb => r_fieldAddrL rfl) ?_) | (refine gq_field ?_; refine q_val rfl (fun w' hb => r_field rfl rfl) ?_) | (refine gq_load ?_; refine q_val rfl (fun w' hb => r_loadVar (i := 0) (S.grow hb) rfl rfl rfl) ?_) | (refine g_store ?_; first | (refine st_skipE rfl (r_storeVar (i := 0) S rfl rfl rfl rfl (of_decide_eq_true rfl) (of_decide_eq_true rfl)) ?_; intro w S'; replace S := S'; clear S') | (refine st_skipE rfl (r_storeVar (i := 1) S rfl rfl rfl rfl (of_decide_eq_true rfl) (of_decide_eq_true rfl)) ?_; intro w S'; replace S := S'; clear S') | (refine st_skipE rfl (r_storeVar (i := 2) S rfl rfl rfl rfl (of_decide_eq_true rfl) (of_decide_eq_true rfl)) ?_; intro w S'; replace S := S'; clear S') | (refine st_skipE rfl (r_storeVar (i := 3) S rfl rfl rfl rfl (of_decide_eq_true rfl) (of_decide_eq_true rfl)) ?_; intro w S'; replace S := S'; clear S')) | (refine q_val rfl (fun w' hb => r_lookup1S (k := nth (idsD s.op) i) ((S.grow hb).dmAt (i := 1) rfl) hg' rfl rfl) ?_))
        refine ⟨⟨_, ?_, i + 1, vo', ⟨rfl, rfl, rfl, rfl, rfl, rfl, rfl, trivial⟩, ?_, by omega, by omega, by omega, by omega, rfl⟩⟩
        · omega
        · rw [← hsum]; exact S.keep [true, true, true, true, true, true]
      · rw [show i.toNat = s.op.length by omega, List.take_length] at S
        repeat' (first | refine WP_seq ?_ | refine WP_region ?_ | refine wl_nil ?_ | refine then_normal ?_ | refine then_exit ?_ | refine inB_here ?_ | refine WP_exit ?_ | (refine WP_drawJ (fun w' => St w0 w' [.var b 93 (bkC b1 b2 last (GSums.mk s.sums.Owed s.sums.Served s.sums.Moved s.sums.Paid (cntA s.op)))]) [0,1,2,3,4,5,6] [7,8,9,10] [] (by kernel_rfl) (by decide) (by decide +kernel) (fun w' hb => (S.grow hb).keep [true]) ?_; intro w hb; replace S := S.grow hb; clear hb) | refine jq_nil ?_ | (refine g_b_lss ?_; refine st_val rfl (r_lss rfl rfl) ?_) | (refine gj_move ?_; refine jq_val rfl (fun w' hJ => ⟨rfl⟩) ?_) | (refine gj_assign ?_; refine jq_val rfl (fun w' hJ => ⟨rfl⟩) ?_) | (refine gj_nilCheck ?_; refine jq_val rfl (fun w' hJ => r_nilCheck rfl) ?_) | (refine gj_c_len ?_; refine jq_val rfl (fun w' hJ => r_lenSlice rfl) ?_) | (refine gj_fieldAddr ?_; refine jq_val rfl (fun w' hJ => r_fieldAddrL rfl) ?_) | (refine gj_load ?_; refine jq_val rfl (fun w' hJ => r_loadVarA (i := 0) hJ rfl rfl rfl rfl) ?_) | (refine gw_move ?_; refine wj_val rfl (⟨rfl⟩) (S.keep [true]) ?_) | (refine gw_assign ?_; refine wj_val rfl (⟨rfl⟩) (S.keep [true]) ?_) | (refine WP_cond rfl (fun h => ?_) (fun h => ?_) <;> (fail_if_success (have hh : true = true := h)) <;> (fail_if_success (have hh : false = false := h)) <;> (try simp only [decide_eq_true_eq, decide_eq_false_iff_not, Bool.not_eq_true', Bool.not_eq_false', Int.not_lt, Int.not_le] at h) <;> (try (exfalso; omega))))
        refine wj_skipE rfl (r_storeVar (i := 3) S rfl rfl rfl rfl (of_decide_eq_true rfl) (of_decide_eq_true rfl)) ?_
        intro w S'
        refine ⟨S'.keep [true], ?_⟩
        replace S := S'; clear S'
        repeat' (first | refine wl_nil ?_ | refine then_normal ?_ | refine WP_ret ?_ | refine wj_nil ?_ | (refine gw_move ?_; refine wj_val rfl (⟨rfl⟩) (S.keep [true]) ?_) | (refine gw_assign ?_; refine wj_val rfl (⟨rfl⟩) (S.keep [true]) ?_))
        have hos : openS s = GSums.mk s.sums.Owed s.sums.Served s.sums.Moved s.sums.Paid (cntA s.op) := by
          unfold openS; rw [hopn, Int.zero_add]
        rw [hos] at hfold
        exact endTCTT rfl rfl rfl rfl rfl S (i := 3) rfl rfl ⟨_, rfl, S.below, ⟨_, s.op, _, (l.length : Int), 0, rfl, S.row (i := 5) rfl, hfold⟩⟩
end Go.Proofs.YtgdmaadikcnagaaDoor
/- Owe: deeds for what is missing of contracts. -/
namespace Go.Proofs.YtgdmaadikcnagaaDoor
open Go Go.Gx Go.RowKit
set_option linter.unusedVariables false
set_option linter.unusedSimpArgs false

theorem one_de : ∀ (x : GDeed), ∀ u ∈ fGDeed.enc x, u.oneCell' = true := by intro x u hu; simp [fGDeed, GDeed.enc] at hu; rcases hu with rfl | rfl | rfl | rfl | rfl | rfl | rfl <;> rfl
/-- The deeds for what is missing, numbered from id on. -/
def oweD (now due : Int) : Int → List (GContract × Int) → List GDeed
  | _, [] => []
  | id, x :: r => if 0 < x.2 then ⟨1, id, 0, x.1.ID, x.2, due, now⟩ :: oweD now due (id + 1) r else oweD now due id r
theorem oweD_snoc {now due : Int} {x : GContract × Int} : ∀ {l : List (GContract × Int)} {id : Int}, oweD now due id (l ++ [x]) = oweD now due id l ++ (if 0 < x.2 then [⟨1, id + (oweD now due id l).length, 0, x.1.ID, x.2, due, now⟩] else [])
  | [], id => by
    simp only [List.nil_append, oweD, List.length_nil, Int.natCast_zero, Int.add_zero]
  | a :: r, id => by
    simp only [List.cons_append, oweD]
    by_cases h : 0 < a.2
    · rw [if_pos h, if_pos h, oweD_snoc (l := r)]
      simp only [List.cons_append, List.length_cons]
      rw [show id + 1 + ((oweD now due (id + 1) r).length : Int) = id + (((oweD now due (id + 1) r).length + 1 : Nat) : Int) by omega]
    · rw [if_neg h, if_neg h, oweD_snoc (l := r)]
theorem oweD_len {now due : Int} : ∀ {l : List (GContract × Int)} {id : Int}, (oweD now due id l).length ≤ l.length
  | [], _ => Nat.le_refl _
  | a :: r, id => by
    unfold oweD; split
    · have := oweD_len (now := now) (due := due) (l := r) (id := id + 1); simp; omega
    · have := oweD_len (now := now) (due := due) (l := r) (id := id); simp; omega
def oweBad (l : List GContract) (sp : List GSpot) (now due id : Int) : Prop := (missingI l sp now).2 ≠ 0 ∨ 10000000 ≤ now ∨ due ≤ now ∨ 10000000 < due ∨ betw id 0 199 = false
instance (l : List GContract) (sp : List GSpot) (now due id : Int) : Decidable (oweBad l sp now due id) := by unfold oweBad; infer_instance
/-- What Owe returns. -/
def oweI (l : List GContract) (sp : List GSpot) (now due id : Int) : List GDeed × Int :=
  if oweBad l sp now due id then ([], 140)
  else if 200 < id + (oweD now due id (l.zip (missingI l sp now).1)).length then ([], 140)
  else (oweD now due id (l.zip (missingI l sp now).1), 0)
theorem missing_len {l : List GContract} {sp : List GSpot} {now : Int} (h : (missingI l sp now).2 = 0) : (missingI l sp now).1.length = l.length ∧ l.length ≤ 12 := by
  unfold missingI at *
  split at h
  · rename_i hc
    rw [if_pos hc]
    refine ⟨List.length_map .., ?_⟩
    simp only [Bool.and_eq_true] at hc
    exact validC_len (okI_t hc.1).1
  · simp at h
theorem nth_zip {l : List GContract} {m : List Int} (h : m.length = l.length) {i : Int} (h0 : 0 ≤ i) (hi : i < l.length) : nth (l.zip m) i = (nth l i, nth m i) := by
  have h1 := nth_get (l := l) h0 hi
  have h2 := nth_get (l := m) (i := i) h0 (by omega)
  have h3 := nth_get (l := l.zip m) (i := i) h0 (by rw [List.length_zip]; omega)
  rw [List.getElem?_zip_eq_some (z := (nth l i, nth m i)) |>.2 ⟨h1, h2⟩] at h3
  exact (Option.some.inj h3).symm
set_option maxHeartbeats 1000000 in
theorem owe_run {l : List GContract} {sp : List GSpot} {now due id : Int} {v1 v2 : Value} {w0 : World} (hr1 : Rd fGContract.ty w0 v1 l) (hr2 : Rd fGSpot.ty w0 v2 sp) (hl : l.length ≤ 1000000000) (hl2 : sp.length ≤ 1000000000) (hG : TblAt w0) :
    CallsR Tryd.prog 25 #[v1, v2, .int .i64 now, .int .i64 due, .int .i64 id] w0 (fun v w' => ∃ vo, v = .tuple #[vo, .int .i64 (oweI l sp now due id).2] ∧ NewRow fGDeed 36 w0 w' vo (oweI l sp now due id).1) := by
  have S := St.start w0
  obtain ⟨A, c, rfl⟩ := hr1.len
  obtain ⟨A2, c2, rfl⟩ := hr2.len
  refine CallsR.mk ?_
  refine calls_enter Tryd.func25 rfl (by intro _ h; first | exact nomatch h.1 | (obtain ⟨_, h, _⟩ := h; exact nomatch h)) Tryd.ntmps25 rfl ?_
  by_cases hbad : oweBad l sp now due id
  · have e : oweI l sp now due id = ([], 140) := by unfold oweI; rw [if_pos hbad]
    rw [e]
    have hbad' := hbad
    unfold oweBad at hbad'
    repeat' (first | refine WP_seq ?_ | refine WP_region ?_ | refine wl_nil ?_ | refine then_normal ?_ | (refine g_move ?_; refine st_move rfl ?_) | (refine g_assign ?_; refine st_assign rfl ?_))
    refine st_callR rfl (r_call3 rfl rfl rfl rfl) (missingC_run (t := now) (hr1.mono S.below) (hr2.mono S.below) hl hl2 (hG.mono S.below)) ?_
    rintro _ w hb ⟨vm, rfl, hrow⟩; replace S := S.new hb hrow; clear hb hrow
    repeat' (first | refine WP_seq ?_ | refine WP_region ?_ | refine wl_nil ?_ | refine then_normal ?_ | refine then_ret ?_ | refine WP_ret ?_ | refine WP_condT rfl ?_ | (refine g_guard ?_; refine st_off rfl ?_) | (refine g_move ?_; refine st_move rfl ?_) | (refine g_assign ?_; refine st_assign rfl ?_) | (refine g_pick ?_; first | refine st_pickT rfl rfl ?_ | refine st_pickF rfl rfl ?_) | (refine g_b_neq ?_; refine st_val rfl (r_neq rfl rfl) ?_) | (refine g_b_leq ?_; refine st_val rfl (r_leq rfl rfl) ?_) | (refine g_b_gtr ?_; refine st_val rfl (r_gtr rfl rfl) ?_) | (refine g_b_geq ?_; refine st_val rfl (r_geq rfl rfl) ?_) | (refine g_un ?_; refine st_val rfl (r_not rfl) ?_) | (refine g_extract ?_; refine st_val rfl (r_extract rfl rfl) ?_) | (refine g_callV ?_; (refine st_callV rfl (r_call3 rfl rfl rfl rfl) (bt_spec) ?_; intro w hb; replace S := S.grow hb; clear hb)) | (refine wl_split rfl rfl (fun h => ?_) (fun h => ?_) <;> (fail_if_success (have hh : true = true := h)) <;> (fail_if_success (have hh : false = false := h)) <;> (try simp only [decide_eq_true_eq, decide_eq_false_iff_not, Bool.not_eq_true', Bool.not_eq_false', Int.not_lt, Int.not_le] at h) <;> (try (exfalso; omega)) <;> (try (exfalso; (simp_all <;> omega); done))) | (refine WP_cond rfl (fun h => ?_) (fun h => ?_) <;> (fail_if_success (have hh : true = true := h)) <;> (fail_if_success (have hh : false = false := h)) <;> (try simp only [decide_eq_true_eq, decide_eq_false_iff_not, Bool.not_eq_true', Bool.not_eq_false', Int.not_lt, Int.not_le] at h) <;> (try (exfalso; omega)) <;> (try (exfalso; (simp_all <;> omega); done))))
    all_goals exact end2 rfl rfl rfl ⟨_, rfl, S.below, _, rfl, NewRow.nil _ _ _ _⟩
  have hgood : (missingI l sp now).2 = 0 ∧ now < 10000000 ∧ now < due ∧ due ≤ 10000000 ∧ betw id 0 199 = true := by
    unfold oweBad at hbad
    refine ⟨Classical.byContradiction fun h => hbad (.inl h), Classical.byContradiction fun h => hbad (.inr (.inl (by omega))), Classical.byContradiction fun h => hbad (.inr (.inr (.inl (by omega)))), Classical.byContradiction fun h => hbad (.inr (.inr (.inr (.inl (by omega))))), ?_⟩
    cases hb : betw id 0 199 with
    | true => rfl
    | false => exact absurd (.inr (.inr (.inr (.inr hb)))) hbad
  obtain ⟨g1, g2, g3, g4, g5⟩ := hgood
  have hid := betw_iff.1 g5
  obtain ⟨hml, hl12⟩ := missing_len g1
  have e : oweI l sp now due id = if 200 < id + (oweD now due id (l.zip (missingI l sp now).1)).length then ([], 140) else (oweD now due id (l.zip (missingI l sp now).1), 0) := by unfold oweI; rw [if_neg hbad]
  rw [e]
  clear e
  repeat' (first | refine WP_seq ?_ | refine WP_region ?_ | refine wl_nil ?_ | refine then_normal ?_ | (refine g_move ?_; refine st_move rfl ?_) | (refine g_assign ?_; refine st_assign rfl ?_))
  refine st_callR rfl (r_call3 rfl rfl rfl rfl) (missingC_run (t := now) (hr1.mono S.below) (hr2.mono S.below) hl hl2 (hG.mono S.below)) ?_
  rintro _ w hb ⟨vm, rfl, hrow⟩; replace S := S.new hb hrow; clear hb hrow
  generalize hms : (missingI l sp now).1 = ms at *
  have hzl : (l.zip ms).length = l.length := by rw [List.length_zip]; omega
  obtain ⟨Am, cm, hz⟩ := (S.rdRow (D := fInt .i64) (i := 0) rfl).len; subst hz
  rw [g1]
  repeat' (first | refine WP_seq ?_ | refine WP_region ?_ | refine wl_nil ?_ | refine then_normal ?_ | refine WP_skip ?_ | refine WP_block ?_ | (refine g_move ?_; refine st_move rfl ?_) | (refine g_assign ?_; refine st_assign rfl ?_) | (refine g_pick ?_; refine st_pickF rfl rfl ?_) | (refine g_b_neq ?_; refine st_val rfl (r_neq rfl rfl) ?_) | (refine g_b_leq ?_; refine st_val rfl (r_leq rfl rfl) ?_) | (refine g_b_gtr ?_; refine st_val rfl (r_gtr rfl rfl) ?_) | (refine g_b_geq ?_; refine st_val rfl (r_geq rfl rfl) ?_) | (refine g_un ?_; refine st_val rfl (r_not rfl) ?_) | (refine g_extract ?_; refine st_val rfl (r_extract rfl rfl) ?_) | (refine g_c_len ?_; refine st_val rfl (r_lenSlice rfl) ?_) | (refine g_callV ?_; (refine st_callV rfl (r_call3 rfl rfl rfl rfl) (bt_spec) ?_; intro w hb; replace S := S.grow hb; clear hb)) | (refine wl_split rfl rfl (fun h => ?_) (fun h => ?_) <;> (fail_if_success (have hh : true = true := h)) <;> (fail_if_success (have hh : false = false := h)) <;> (try simp only [decide_eq_true_eq, decide_eq_false_iff_not, Bool.not_eq_true', Bool.not_eq_false', Int.not_lt, Int.not_le] at h) <;> (try (exfalso; omega)) <;> (try (exfalso; (first | omega | (rw [g5] at h; cases h)); done))) | (refine WP_cond rfl (fun h => ?_) (fun h => ?_) <;> (fail_if_success (have hh : true = true := h)) <;> (fail_if_success (have hh : false = false := h)) <;> (try simp only [decide_eq_true_eq, decide_eq_false_iff_not, Bool.not_eq_true', Bool.not_eq_false', Int.not_lt, Int.not_le] at h) <;> (try (exfalso; omega)) <;> (try (exfalso; (first | omega | (rw [g5] at h; cases h)); done))))
  replace S := St.nilRow fGDeed 36 S
  refine WP_loop (fun k σ w1 => ∃ (i : Int) (vo : Value), Has σ [(0, .slice A l.length c), (2, .int .i64 now), (3, .int .i64 due), (4, .int .i64 id), (14, vo), (44, .slice Am ms.length cm), (45, .int .i64 ms.length), (46, .int .i64 i)] ∧ St w0 w1 [rowOb (fInt .i64) 3 (.slice Am ms.length cm) ms, rowOb fGDeed 36 vo (oweD now due id ((l.zip ms).take i.toNat))] ∧ 0 ≤ i ∧ i ≤ ms.length ∧ k = ms.length - i.toNat) ms.length ⟨0, _, ⟨rfl, rfl, rfl, rfl, rfl, rfl, rfl, rfl, trivial⟩, S, by omega, by omega, by omega⟩ ?_
  clear S
  rintro k σ w1 ⟨i, vo, hs, S, hi0, hi1, rfl⟩
  refine WP_has hs ?_
  have hdl := @oweD_len now due ((l.zip ms).take i.toNat) id
  rw [List.length_take] at hdl
  obtain ⟨Ao, co, hz⟩ := (S.rdRow (D := fGDeed) (i := 1) rfl).len; subst hz
  by_cases hi : i < ms.length
  · have hstep := oweD_snoc (now := now) (due := due) (x := nth (l.zip ms) i) (l := (l.zip ms).take i.toNat) (id := id)
    rw [← take_snoc hi0 (by omega), nth_zip hml hi0 (by omega)] at hstep
    simp only at hstep
    by_cases h0 : 0 < nth ms i
    · rw [if_pos h0] at hstep
      repeat' (first | refine WP_seq ?_ | refine WP_region ?_ | refine wl_nil ?_ | refine then_normal ?_ | refine WP_skip ?_ | refine WP_block ?_ | (refine g_move ?_; refine st_move rfl ?_) | (refine g_assign ?_; refine st_assign rfl ?_) | (refine g_b_add ?_; (refine st_val rfl (r_addN rfl rfl ?_ ?_) ?_; (first | omega | (simp <;> omega)); (first | omega | (simp <;> omega)))) | (refine g_b_lss ?_; refine st_val rfl (r_lss rfl rfl) ?_) | (refine g_b_gtr ?_; refine st_val rfl (r_gtr rfl rfl) ?_) | (refine g_build ?_; refine st_val rfl (bd36_0_1_3_4_5_6 rfl rfl rfl rfl rfl rfl) ?_) | (refine g_c_len ?_; refine st_val rfl (r_lenSlice rfl) ?_) | (refine g_fieldAddr ?_; refine st_val rfl (r_fieldAddr rfl) ?_) | (refine g_indexAddr ?_; first | (refine st_val rfl (r_indexAddr (hr1.mono S.below) rfl rfl ?_ ?_) ?_; (first | omega | (simp <;> omega)); (first | omega | (simp <;> omega))) | (refine st_val rfl (r_indexAddr (S.rdRow (D := (fInt .i64)) (i := 0) rfl) rfl rfl ?_ ?_) ?_; (first | omega | (simp <;> omega)); (first | omega | (simp <;> omega)))) | (refine g_load ?_; first | (refine st_val rfl (r_loadElem1 (hr1.mono S.below) rfl ?_ ?_ rfl) ?_; (first | omega | (simp <;> omega)); (first | omega | (simp <;> omega))) | (refine st_val rfl (r_loadElem1 (S.rdRow (D := (fInt .i64)) (i := 0) rfl) rfl ?_ ?_ rfl) ?_; (first | omega | (simp <;> omega)); (first | omega | (simp <;> omega)))) | (refine WP_cond rfl (fun h => ?_) (fun h => ?_) <;> (fail_if_success (have hh : true = true := h)) <;> (fail_if_success (have hh : false = false := h)) <;> (try simp only [decide_eq_true_eq, decide_eq_false_iff_not, Bool.not_eq_true', Bool.not_eq_false', Int.not_lt, Int.not_le] at h) <;> (try (exfalso; omega)) <;> (try (exfalso; omega; done))))
      refine st_valE rfl (r_litF (D := fGDeed) [GDeed.mk 1 (id + (oweD now due id ((l.zip ms).take i.toNat)).length) 0 (nth l i).ID (nth ms i) due now] (fun y => .agg y.enc.toArray) S rfl rfl (fun _ => rfl) rfl (by decide) (by decide)) ?_
      rintro _ w ⟨bl, rfl, -, hcl, S'⟩; replace S := S'; clear S'
      refine st_valE rfl (r_append1 (D := fGDeed) (i := 1) (b := bl) (x := GDeed.mk 1 (id + (oweD now due id ((l.zip ms).take i.toNat)).length) 0 (nth l i).ID (nth ms i) due now) S rfl rfl rfl (fl_one hcl) rfl (by decide) (one_de _) (by omega) (by omega)) ?_
      rintro vo' w ⟨-, S'⟩; replace S := S'; clear S' hcl
      rw [← hstep] at S
      repeat' (first | refine WP_region ?_ | refine wl_nil ?_ | refine then_normal ?_ | refine inB_normal ?_ | (refine g_move ?_; refine st_move rfl ?_) | (refine g_assign ?_; refine st_assign rfl ?_) | (refine g_b_add ?_; (refine st_val rfl (r_addN rfl rfl ?_ ?_) ?_; (first | omega | (simp <;> omega)); (first | omega | (simp <;> omega)))))
      refine ⟨⟨_, ?_, i + 1, vo', ⟨rfl, rfl, rfl, rfl, rfl, rfl, rfl, rfl, trivial⟩, S.keep [true, true], by omega, by omega, rfl⟩⟩
      omega
    · rw [if_neg h0, List.append_nil] at hstep
      repeat' (first | refine WP_seq ?_ | refine WP_region ?_ | refine wl_nil ?_ | refine then_normal ?_ | refine inB_normal ?_ | refine WP_skip ?_ | refine WP_block ?_ | (refine g_move ?_; refine st_move rfl ?_) | (refine g_assign ?_; refine st_assign rfl ?_) | (refine g_b_add ?_; (refine st_val rfl (r_addN rfl rfl ?_ ?_) ?_; (first | omega | (simp <;> omega)); (first | omega | (simp <;> omega)))) | (refine g_b_lss ?_; refine st_val rfl (r_lss rfl rfl) ?_) | (refine g_b_gtr ?_; refine st_val rfl (r_gtr rfl rfl) ?_) | (refine g_indexAddr ?_; (refine st_val rfl (r_indexAddr (S.rdRow (D := (fInt .i64)) (i := 0) rfl) rfl rfl ?_ ?_) ?_; (first | omega | (simp <;> omega)); (first | omega | (simp <;> omega)))) | (refine g_load ?_; (refine st_val rfl (r_loadElem1 (S.rdRow (D := (fInt .i64)) (i := 0) rfl) rfl ?_ ?_ rfl) ?_; (first | omega | (simp <;> omega)); (first | omega | (simp <;> omega)))) | (refine WP_cond rfl (fun h => ?_) (fun h => ?_) <;> (fail_if_success (have hh : true = true := h)) <;> (fail_if_success (have hh : false = false := h)) <;> (try simp only [decide_eq_true_eq, decide_eq_false_iff_not, Bool.not_eq_true', Bool.not_eq_false', Int.not_lt, Int.not_le] at h) <;> (try (exfalso; omega)) <;> (try (exfalso; omega; done))))
      refine ⟨⟨_, ?_, i + 1, _, ⟨rfl, rfl, rfl, rfl, rfl, rfl, rfl, rfl, trivial⟩, by rw [hstep]; exact S, by omega, by omega, rfl⟩⟩
      omega
  · have hE : oweD now due id (l.zip ms) = oweD now due id ((l.zip ms).take i.toNat) := by rw [show i.toNat = (l.zip ms).length by omega, List.take_length]
    rw [hE]
    by_cases hlong : 200 < id + (oweD now due id ((l.zip ms).take i.toNat)).length
    · rw [if_pos hlong]
      repeat' (first | refine WP_seq ?_ | refine WP_region ?_ | refine wl_nil ?_ | refine then_normal ?_ | refine then_exit ?_ | refine inB_here ?_ | refine then_ret ?_ | refine WP_ret ?_ | refine WP_exit ?_ | (refine g_move ?_; refine st_move rfl ?_) | (refine g_assign ?_; refine st_assign rfl ?_) | (refine g_b_add ?_; (refine st_val rfl (r_addN rfl rfl ?_ ?_) ?_; (first | omega | (simp <;> omega)); (first | omega | (simp <;> omega)))) | (refine g_b_lss ?_; refine st_val rfl (r_lss rfl rfl) ?_) | (refine g_b_gtr ?_; refine st_val rfl (r_gtr rfl rfl) ?_) | (refine g_c_len ?_; refine st_val rfl (r_lenSlice rfl) ?_) | (refine WP_cond rfl (fun h => ?_) (fun h => ?_) <;> (fail_if_success (have hh : true = true := h)) <;> (fail_if_success (have hh : false = false := h)) <;> (try simp only [decide_eq_true_eq, decide_eq_false_iff_not, Bool.not_eq_true', Bool.not_eq_false', Int.not_lt, Int.not_le] at h) <;> (try (exfalso; omega)) <;> (try (exfalso; omega; done))))
      exact end2 rfl rfl rfl ⟨_, rfl, S.below, _, rfl, NewRow.nil _ _ _ _⟩
    · rw [if_neg hlong]
      repeat' (first | refine WP_seq ?_ | refine WP_region ?_ | refine wl_nil ?_ | refine then_normal ?_ | refine then_exit ?_ | refine inB_here ?_ | refine WP_ret ?_ | refine WP_skip ?_ | refine WP_exit ?_ | (refine g_move ?_; refine st_move rfl ?_) | (refine g_assign ?_; refine st_assign rfl ?_) | (refine g_b_add ?_; (refine st_val rfl (r_addN rfl rfl ?_ ?_) ?_; (first | omega | (simp <;> omega)); (first | omega | (simp <;> omega)))) | (refine g_b_lss ?_; refine st_val rfl (r_lss rfl rfl) ?_) | (refine g_b_gtr ?_; refine st_val rfl (r_gtr rfl rfl) ?_) | (refine g_c_len ?_; refine st_val rfl (r_lenSlice rfl) ?_) | (refine WP_cond rfl (fun h => ?_) (fun h => ?_) <;> (fail_if_success (have hh : true = true := h)) <;> (fail_if_success (have hh : false = false := h)) <;> (try simp only [decide_eq_true_eq, decide_eq_false_iff_not, Bool.not_eq_true', Bool.not_eq_false', Int.not_lt, Int.not_le] at h) <;> (try (exfalso; omega)) <;> (try (exfalso; omega; done))))
      exact end2 rfl rfl rfl ⟨_, rfl, S.below, _, rfl, S.row (i := 1) rfl⟩
end Go.Proofs.YtgdmaadikcnagaaDoor
/- Numbers that pick; lists that are alike; what servings come to. -/
namespace Go.Proofs.YtgdmaadikcnagaaDoor
open Go Go.Gx Go.RowKit
set_option linter.unusedVariables false
set_option linter.unusedSimpArgs false

theorem pickL_spec {c n : Int} {w : World} (hc0 : -9223372036854775808 ≤ c) (hc : c ≤ 9223372036854775807) (hn : 0 < n) : CallsV Tryd.prog 13 #[.int .i64 c, .int .i64 n] w (.int .i64 (pickI c n)) := by
  have S := St.start w
  refine CallsV.mk ?_
  refine calls_enter Tryd.func13 rfl (by intro _ h; first | exact nomatch h.1 | (obtain ⟨_, h, _⟩ := h; exact nomatch h)) Tryd.ntmps13 rfl ?_
  repeat' (first | refine WP_seq ?_ | refine WP_region ?_ | refine wl_nil ?_ | refine then_normal ?_ | refine WP_ret ?_ | refine WP_skip ?_ | (refine g_move ?_; refine st_move rfl ?_) | (refine g_assign ?_; refine st_assign rfl ?_) | (refine g_b_add ?_; (refine st_val rfl (r_addN rfl rfl ?_ ?_) ?_; (first | omega | (simp <;> omega)); (first | omega | (simp <;> omega)))) | (refine g_b_rem ?_; (refine st_val rfl (r_remN rfl rfl ?_ ?_) ?_; (first | omega | (simp <;> omega)); (first | omega | (simp <;> omega)))) | (refine g_b_lss ?_; refine st_val rfl (r_lss rfl rfl) ?_) | (refine g_un ?_; (refine st_val rfl (r_negN rfl ?_ ?_) ?_; (first | omega | (simp <;> omega)); (first | omega | (simp <;> omega)))) | (refine WP_cond rfl (fun h => ?_) (fun h => ?_) <;> (fail_if_success (have hh : true = true := h)) <;> (fail_if_success (have hh : false = false := h)) <;> (try simp only [decide_eq_true_eq, decide_eq_false_iff_not, Bool.not_eq_true', Bool.not_eq_false', Int.not_lt, Int.not_le] at h) <;> (try (exfalso; omega))))
  · exact end1 rfl rfl ⟨ri (by unfold pickI; rw [if_pos h]), S.below⟩
  · exact end1 rfl rfl ⟨ri (by unfold pickI; rw [if_neg (by omega)]), S.below⟩
theorem pickL_is {c n x : Int} {w : World} (hx : pickI c n = x) (hc0 : -9223372036854775808 ≤ c) (hc : c ≤ 9223372036854775807) (hn : 0 < n) : CallsV Tryd.prog 13 #[.int .i64 c, .int .i64 n] w (.int .i64 x) := by
  rw [← hx]; exact pickL_spec hc0 hc hn

theorem pickR_spec {c n : Int} {w : World} (hc0 : -9223372036854775808 ≤ c) (hc : c ≤ 9223372036854775807) (hn : 0 < n) : CallsV Tryd.prog 30 #[.int .i64 c, .int .i64 n] w (.int .i64 (pickI c n)) := by
  have S := St.start w
  refine CallsV.mk ?_
  refine calls_enter Tryd.func30 rfl (by intro _ h; first | exact nomatch h.1 | (obtain ⟨_, h, _⟩ := h; exact nomatch h)) Tryd.ntmps30 rfl ?_
  repeat' (first | refine WP_seq ?_ | refine WP_region ?_ | refine wl_nil ?_ | refine then_normal ?_ | refine WP_ret ?_ | refine WP_skip ?_ | (refine g_move ?_; refine st_move rfl ?_) | (refine g_assign ?_; refine st_assign rfl ?_) | (refine g_b_add ?_; (refine st_val rfl (r_addN rfl rfl ?_ ?_) ?_; (first | omega | (simp <;> omega)); (first | omega | (simp <;> omega)))) | (refine g_b_rem ?_; (refine st_val rfl (r_remN rfl rfl ?_ ?_) ?_; (first | omega | (simp <;> omega)); (first | omega | (simp <;> omega)))) | (refine g_b_lss ?_; refine st_val rfl (r_lss rfl rfl) ?_) | (refine g_un ?_; (refine st_val rfl (r_negN rfl ?_ ?_) ?_; (first | omega | (simp <;> omega)); (first | omega | (simp <;> omega)))) | (refine WP_cond rfl (fun h => ?_) (fun h => ?_) <;> (fail_if_success (have hh : true = true := h)) <;> (fail_if_success (have hh : false = false := h)) <;> (try simp only [decide_eq_true_eq, decide_eq_false_iff_not, Bool.not_eq_true', Bool.not_eq_false', Int.not_lt, Int.not_le] at h) <;> (try (exfalso; omega))))
  · exact end1 rfl rfl ⟨ri (by unfold pickI; rw [if_pos h]), S.below⟩
  · exact end1 rfl rfl ⟨ri (by unfold pickI; rw [if_neg (by omega)]), S.below⟩
theorem ext_nth {α : Type} [Inhabited α] {l m : List α} (hl : l.length = m.length) (h : ∀ j : Int, 0 ≤ j → j < l.length → nth l j = nth m j) : l = m := by
  apply List.ext_getElem? 
  intro j
  by_cases hj : j < l.length
  · have h1 := nth_get (l := l) (i := j) (by omega) (by omega)
    have h2 := nth_get (l := m) (i := j) (by omega) (by omega)
    simp only [Int.toNat_natCast] at h1 h2
    rw [h1, h2, h j (by omega) (by omega)]
  · rw [List.getElem?_eq_none (by omega), List.getElem?_eq_none (by omega)]
theorem sameD_spec {v v2 : Value} {l m : List GDebt} {w : World} (hr : Rd fGDebt.ty w v l) (hr2 : Rd fGDebt.ty w v2 m) (hl : l.length ≤ 1000000000) (hm : m.length ≤ 1000000000) :
    CallsV Tryd.prog 28 #[v, v2] w (.bool (decide (l = m))) := by
  have S := St.start w
  obtain ⟨A, c, rfl⟩ := hr.len
  obtain ⟨A2, c2, rfl⟩ := hr2.len
  refine CallsV.mk ?_
  refine calls_enter Tryd.func28 rfl (by intro _ h; first | exact nomatch h.1 | (obtain ⟨_, h, _⟩ := h; exact nomatch h)) Tryd.ntmps28 rfl ?_
  repeat' (first | refine WP_seq ?_ | refine WP_region ?_ | refine wl_nil ?_ | refine then_normal ?_ | refine then_ret ?_ | refine WP_ret ?_ | refine WP_skip ?_ | refine WP_block ?_ | (refine g_move ?_; refine st_move rfl ?_) | (refine g_assign ?_; refine st_assign rfl ?_) | (refine g_b_neq ?_; refine st_val rfl (r_neq rfl rfl) ?_) | (refine g_c_len ?_; refine st_val rfl (r_lenSlice rfl) ?_) | (refine WP_cond rfl (fun h => ?_) (fun h => ?_) <;> (fail_if_success (have hh : true = true := h)) <;> (fail_if_success (have hh : false = false := h)) <;> (try simp only [decide_eq_true_eq, decide_eq_false_iff_not, Bool.not_eq_true', Bool.not_eq_false', Int.not_lt, Int.not_le] at h) <;> (try (exfalso; omega))))
  · exact end1 rfl rfl ⟨rb (by rw [decide_eq_false]; rintro rfl; omega), S.below⟩
  refine WP_loop (fun k σ w1 => ∃ i : Int, Has σ [(0, .slice A l.length c), (1, .slice A2 m.length c2), (5, .int .i64 i)] ∧ St w w1 [] ∧ 0 ≤ i ∧ i ≤ l.length ∧ k = l.length - i.toNat ∧ ∀ j : Int, 0 ≤ j → j < i → nth l j = nth m j) l.length ⟨0, ⟨rfl, rfl, rfl, trivial⟩, S, by omega, by omega, by omega, fun j h0 h1 => by omega⟩ ?_
  rintro k σ w1 ⟨i, hs, S, hi0, hi1, rfl, hall⟩
  refine WP_has hs ?_
  repeat' (first | refine WP_seq ?_ | refine WP_region ?_ | refine wl_nil ?_ | refine then_normal ?_ | refine inB_normal ?_ | refine then_exit ?_ | refine inB_here ?_ | refine then_ret ?_ | refine inB_ret ?_ | refine WP_ret ?_ | refine WP_skip ?_ | refine WP_exit ?_ | refine WP_block ?_ | refine WP_draw (by kernel_rfl) (by kernel_rfl) ?_ | (refine ql_nil ?_; intro w hb; replace S := S.grow hb; clear hb) | (refine g_move ?_; refine st_move rfl ?_) | (refine g_assign ?_; refine st_assign rfl ?_) | (refine g_b_add ?_; (refine st_val rfl (r_addN rfl rfl ?_ ?_) ?_; (first | omega | (simp <;> omega)); (first | omega | (simp <;> omega)))) | (refine g_b_lss ?_; refine st_val rfl (r_lss rfl rfl) ?_) | (refine g_c_len ?_; refine st_val rfl (r_lenSlice rfl) ?_) | (refine gq_move ?_; refine q_move rfl ?_) | (refine gq_b_neq ?_; refine q_val rfl (fun w' hb => neq33 rfl rfl) ?_) | (refine gq_indexAddr ?_; first | (refine q_val rfl (fun w' hb => r_indexAddr (hr.mono (S.grow hb).below) rfl rfl ?_ ?_) ?_; (first | omega | (simp <;> omega)); (first | omega | (simp <;> omega))) | (refine q_val rfl (fun w' hb => r_indexAddr (hr2.mono (S.grow hb).below) rfl rfl ?_ ?_) ?_; (first | omega | (simp <;> omega)); (first | omega | (simp <;> omega)))) | (refine gq_load ?_; first | (refine q_val rfl (fun w' hb => r_loadElem (hr.mono (S.grow hb).below) rfl ?_ ?_) ?_; (first | omega | (simp <;> omega)); (first | omega | (simp <;> omega))) | (refine q_val rfl (fun w' hb => r_loadElem (hr2.mono (S.grow hb).below) rfl ?_ ?_) ?_; (first | omega | (simp <;> omega)); (first | omega | (simp <;> omega)))) | (refine WP_cond rfl (fun h => ?_) (fun h => ?_) <;> (fail_if_success (have hh : true = true := h)) <;> (fail_if_success (have hh : false = false := h)) <;> (try simp only [decide_eq_true_eq, decide_eq_false_iff_not, Bool.not_eq_true', Bool.not_eq_false', Int.not_lt, Int.not_le] at h) <;> (try (exfalso; omega))))
  · refine end1 rfl rfl ⟨rb ?_, S.below⟩
    symm; rw [decide_eq_false_iff_not]; rintro rfl
    simp at h
  · refine ⟨⟨_, ?_, i + 1, ⟨rfl, rfl, rfl, trivial⟩, S, by omega, by omega, rfl, fun j h0 h1 => ?_⟩⟩
    · omega
    · by_cases e : j = i
      · subst e; first | exact h | exact of_decide_eq_true h
      · exact hall j h0 (by omega)
  · refine end1 rfl rfl ⟨rb ?_, S.below⟩
    symm; rw [decide_eq_true_iff]
    exact ext_nth (by omega) fun j h0 h1 => hall j h0 (by omega)

theorem sameS_spec {v v2 : Value} {l m : List GServing} {w : World} (hr : Rd fGServing.ty w v l) (hr2 : Rd fGServing.ty w v2 m) (hl : l.length ≤ 1000000000) (hm : m.length ≤ 1000000000) :
    CallsV Tryd.prog 27 #[v, v2] w (.bool (decide (l = m))) := by
  have S := St.start w
  obtain ⟨A, c, rfl⟩ := hr.len
  obtain ⟨A2, c2, rfl⟩ := hr2.len
  refine CallsV.mk ?_
  refine calls_enter Tryd.func27 rfl (by intro _ h; first | exact nomatch h.1 | (obtain ⟨_, h, _⟩ := h; exact nomatch h)) Tryd.ntmps27 rfl ?_
  repeat' (first | refine WP_seq ?_ | refine WP_region ?_ | refine wl_nil ?_ | refine then_normal ?_ | refine then_ret ?_ | refine WP_ret ?_ | refine WP_skip ?_ | refine WP_block ?_ | (refine g_move ?_; refine st_move rfl ?_) | (refine g_assign ?_; refine st_assign rfl ?_) | (refine g_b_neq ?_; refine st_val rfl (r_neq rfl rfl) ?_) | (refine g_c_len ?_; refine st_val rfl (r_lenSlice rfl) ?_) | (refine WP_cond rfl (fun h => ?_) (fun h => ?_) <;> (fail_if_success (have hh : true = true := h)) <;> (fail_if_success (have hh : false = false := h)) <;> (try simp only [decide_eq_true_eq, decide_eq_false_iff_not, Bool.not_eq_true', Bool.not_eq_false', Int.not_lt, Int.not_le] at h) <;> (try (exfalso; omega))))
  · exact end1 rfl rfl ⟨rb (by rw [decide_eq_false]; rintro rfl; omega), S.below⟩
  refine WP_loop (fun k σ w1 => ∃ i : Int, Has σ [(0, .slice A l.length c), (1, .slice A2 m.length c2), (5, .int .i64 i)] ∧ St w w1 [] ∧ 0 ≤ i ∧ i ≤ l.length ∧ k = l.length - i.toNat ∧ ∀ j : Int, 0 ≤ j → j < i → nth l j = nth m j) l.length ⟨0, ⟨rfl, rfl, rfl, trivial⟩, S, by omega, by omega, by omega, fun j h0 h1 => by omega⟩ ?_
  rintro k σ w1 ⟨i, hs, S, hi0, hi1, rfl, hall⟩
  refine WP_has hs ?_
  repeat' (first | refine WP_seq ?_ | refine WP_region ?_ | refine wl_nil ?_ | refine then_normal ?_ | refine inB_normal ?_ | refine then_exit ?_ | refine inB_here ?_ | refine then_ret ?_ | refine inB_ret ?_ | refine WP_ret ?_ | refine WP_skip ?_ | refine WP_exit ?_ | refine WP_block ?_ | refine WP_draw (by kernel_rfl) (by kernel_rfl) ?_ | (refine ql_nil ?_; intro w hb; replace S := S.grow hb; clear hb) | (refine g_move ?_; refine st_move rfl ?_) | (refine g_assign ?_; refine st_assign rfl ?_) | (refine g_b_add ?_; (refine st_val rfl (r_addN rfl rfl ?_ ?_) ?_; (first | omega | (simp <;> omega)); (first | omega | (simp <;> omega)))) | (refine g_b_lss ?_; refine st_val rfl (r_lss rfl rfl) ?_) | (refine g_c_len ?_; refine st_val rfl (r_lenSlice rfl) ?_) | (refine gq_move ?_; refine q_move rfl ?_) | (refine gq_b_neq ?_; refine q_val rfl (fun w' hb => neq56 rfl rfl) ?_) | (refine gq_indexAddr ?_; first | (refine q_val rfl (fun w' hb => r_indexAddr (hr.mono (S.grow hb).below) rfl rfl ?_ ?_) ?_; (first | omega | (simp <;> omega)); (first | omega | (simp <;> omega))) | (refine q_val rfl (fun w' hb => r_indexAddr (hr2.mono (S.grow hb).below) rfl rfl ?_ ?_) ?_; (first | omega | (simp <;> omega)); (first | omega | (simp <;> omega)))) | (refine gq_load ?_; first | (refine q_val rfl (fun w' hb => r_loadElem (hr.mono (S.grow hb).below) rfl ?_ ?_) ?_; (first | omega | (simp <;> omega)); (first | omega | (simp <;> omega))) | (refine q_val rfl (fun w' hb => r_loadElem (hr2.mono (S.grow hb).below) rfl ?_ ?_) ?_; (first | omega | (simp <;> omega)); (first | omega | (simp <;> omega)))) | (refine WP_cond rfl (fun h => ?_) (fun h => ?_) <;> (fail_if_success (have hh : true = true := h)) <;> (fail_if_success (have hh : false = false := h)) <;> (try simp only [decide_eq_true_eq, decide_eq_false_iff_not, Bool.not_eq_true', Bool.not_eq_false', Int.not_lt, Int.not_le] at h) <;> (try (exfalso; omega))))
  · refine end1 rfl rfl ⟨rb ?_, S.below⟩
    symm; rw [decide_eq_false_iff_not]; rintro rfl
    simp at h
  · refine ⟨⟨_, ?_, i + 1, ⟨rfl, rfl, rfl, trivial⟩, S, by omega, by omega, rfl, fun j h0 h1 => ?_⟩⟩
    · omega
    · by_cases e : j = i
      · subst e; first | exact h | exact of_decide_eq_true h
      · exact hall j h0 (by omega)
  · refine end1 rfl rfl ⟨rb ?_, S.below⟩
    symm; rw [decide_eq_true_iff]
    exact ext_nth (by omega) fun j h0 h1 => hall j h0 (by omega)

theorem tot_bound {l : List GServing} {M : Int} (h : ∀ x ∈ l, 0 ≤ x.Count ∧ x.Count ≤ M) : 0 ≤ tot l ∧ tot l ≤ M * l.length := by
  induction l with
  | nil => simp [tot]
  | cons a r ih =>
    have h1 := h a (List.mem_cons_self ..)
    have h2 := ih fun x hx => h x (List.mem_cons_of_mem _ hx)
    simp only [tot, List.length_cons]
    rw [show M * ((r.length + 1 : Nat) : Int) = M * r.length + M by rw [Int.natCast_add, Int.mul_add]; simp]
    omega
theorem total_spec {l : List GServing} {v : Value} {w : World} (hr : Rd fGServing.ty w v l) (hl : l.length ≤ 1000000) (hc : ∀ x ∈ l, 0 ≤ x.Count ∧ x.Count ≤ 1000000) : CallsV Tryd.prog 21 #[v] w (.int .i64 (tot l)) := by
  have S := St.start w
  obtain ⟨A, c, rfl⟩ := hr.len
  refine CallsV.mk ?_
  refine calls_enter Tryd.func21 rfl (by intro _ h; first | exact nomatch h.1 | (obtain ⟨_, h, _⟩ := h; exact nomatch h)) Tryd.ntmps21 rfl ?_
  repeat' (first | refine WP_seq ?_ | refine WP_region ?_ | refine wl_nil ?_ | refine then_normal ?_ | refine WP_block ?_ | (refine g_assign ?_; refine st_assign rfl ?_))
  refine WP_loop (fun k σ w1 => ∃ i : Int, Has σ [(0, .slice A l.length c), (3, .int .i64 (tot (l.take i.toNat))), (4, .int .i64 i)] ∧ St w w1 [] ∧ 0 ≤ i ∧ i ≤ l.length ∧ k = l.length - i.toNat) l.length ⟨0, ⟨rfl, rfl, rfl, trivial⟩, S, by omega, by omega, by omega⟩ ?_
  clear S
  rintro k σ w1 ⟨i, hs, S, hi0, hi1, rfl⟩
  refine WP_has hs ?_
  by_cases hi : i < l.length
  · have hb := tot_bound (l := l.take i.toNat) (M := 1000000) fun x hx => hc x (List.mem_of_mem_take hx)
    rw [List.length_take] at hb
    have hx := hc _ (mem_nth hi0 hi)
    have hst := tot_take hi0 hi
    repeat' (first | refine WP_seq ?_ | refine WP_region ?_ | refine wl_nil ?_ | refine then_normal ?_ | refine inB_normal ?_ | refine WP_skip ?_ | refine WP_block ?_ | (refine g_move ?_; refine st_move rfl ?_) | (refine g_assign ?_; refine st_assign rfl ?_) | (refine g_b_add ?_; (refine st_val rfl (r_addN rfl rfl ?_ ?_) ?_; (first | omega | (simp <;> omega)); (first | omega | (simp <;> omega)))) | (refine g_b_lss ?_; refine st_val rfl (r_lss rfl rfl) ?_) | (refine g_c_len ?_; refine st_val rfl (r_lenSlice rfl) ?_) | (refine g_fieldAddr ?_; refine st_val rfl (r_fieldAddr rfl) ?_) | (refine g_indexAddr ?_; (refine st_val rfl (r_indexAddr (hr.mono S.below) rfl rfl ?_ ?_) ?_; (first | omega | (simp <;> omega)); (first | omega | (simp <;> omega)))) | (refine g_load ?_; (refine st_val rfl (r_loadElemF (hr.mono S.below) rfl ?_ ?_ rfl) ?_; (first | omega | (simp <;> omega)); (first | omega | (simp <;> omega)))) | (refine WP_cond rfl (fun h => ?_) (fun h => ?_) <;> (fail_if_success (have hh : true = true := h)) <;> (fail_if_success (have hh : false = false := h)) <;> (try simp only [decide_eq_true_eq, decide_eq_false_iff_not, Bool.not_eq_true', Bool.not_eq_false', Int.not_lt, Int.not_le] at h) <;> (try (exfalso; omega))))
    refine ⟨⟨_, ?_, i + 1, ⟨rfl, by rw [hst]; rfl, rfl, trivial⟩, S, by omega, by omega, rfl⟩⟩
    omega
  · rw [show i.toNat = l.length by omega, List.take_length] at hs
    repeat' (first | refine WP_seq ?_ | refine WP_region ?_ | refine wl_nil ?_ | refine then_normal ?_ | refine then_exit ?_ | refine inB_here ?_ | refine WP_ret ?_ | refine WP_exit ?_ | (refine g_move ?_; refine st_move rfl ?_) | (refine g_assign ?_; refine st_assign rfl ?_) | (refine g_b_lss ?_; refine st_val rfl (r_lss rfl rfl) ?_) | (refine g_c_len ?_; refine st_val rfl (r_lenSlice rfl) ?_) | (refine WP_cond rfl (fun h => ?_) (fun h => ?_) <;> (fail_if_success (have hh : true = true := h)) <;> (fail_if_success (have hh : false = false := h)) <;> (try simp only [decide_eq_true_eq, decide_eq_false_iff_not, Bool.not_eq_true', Bool.not_eq_false', Int.not_lt, Int.not_le] at h) <;> (try (exfalso; omega))))
    exact end1 rfl rfl ⟨by first | rfl | (rw [show i.toNat = l.length by omega, List.take_length]; rfl), S.below⟩
/-- The chapter's deeds. -/
def exL (t : Int) : List GDeed := [⟨1, 1, 0, 3, 5, 100, 0⟩, ⟨2, 1, 0, 0, 2, 0, t⟩, ⟨3, 1, 2, 4, 1, 0, 20⟩, ⟨4, 1, 0, 0, 1, 0, 100⟩]
theorem example_run {t : Int} {w : World} : CallsR Tryd.prog 26 #[.int .i64 t] w (fun v w' => NewRow fGDeed 36 w w' v (exL t)) := by
  have S := St.start w
  refine CallsR.mk ?_
  refine calls_enter Tryd.func26 rfl (by intro _ h; first | exact nomatch h.1 | (obtain ⟨_, h, _⟩ := h; exact nomatch h)) Tryd.ntmps26 rfl ?_
  repeat' (first | refine WP_seq ?_ | refine WP_region ?_ | refine wl_nil ?_ | refine then_normal ?_ | (refine g_move ?_; refine st_move rfl ?_) | (refine g_assign ?_; refine st_assign rfl ?_) | (refine g_build ?_; first | refine st_val rfl (bd36_0_1_2_3_4_6 rfl rfl rfl rfl rfl rfl) ?_ | refine st_val rfl (bd36_0_1_3_4_5 rfl rfl rfl rfl rfl) ?_ | refine st_val rfl (bd36_0_1_4_6 rfl rfl rfl rfl) ?_))
  refine st_valE rfl (r_litF (D := fGDeed) (exL t) (fun x => .agg x.enc.toArray) S rfl rfl (fun _ => rfl) rfl (by decide) (by decide)) ?_
  rintro _ w ⟨bl, rfl, -, -, S'⟩; replace S := S'; clear S'
  repeat' (first | refine wl_nil ?_ | refine then_normal ?_ | refine WP_ret ?_ | (refine g_assign ?_; refine st_assign rfl ?_))
  exact end1 rfl rfl ⟨_, rfl, S.below, S.row (i := 0) rfl⟩
end Go.Proofs.YtgdmaadikcnagaaDoor
/- The chapter's examples. -/
namespace Go.Proofs.YtgdmaadikcnagaaDoor
open Go Go.Gx Go.RowKit
set_option linter.unusedVariables false
set_option linter.unusedSimpArgs false

def exD : List GDebt := [⟨1, 1, 2, 100⟩, ⟨2, 2, 3, 50⟩]
def exO : List GOpening := [⟨10, 2⟩, ⟨40, 2⟩, ⟨60, 3⟩]
def exA : List GServing := [⟨2, 10, 2⟩, ⟨2, 40, 1⟩, ⟨1, 40, 1⟩, ⟨1, 60, 1⟩]
def exB : List GServing := [⟨2, 40, 2⟩, ⟨1, 60, 2⟩]
theorem perm_two {α : Type} {l : List α} {a b : α} (h : l.Perm [a, b]) : l = [a, b] ∨ l = [b, a] := by
  match l, h.length_eq with
  | [x, y], _ =>
    have hx := h.mem_iff.1 (List.mem_cons_self : x ∈ [x, y])
    rcases List.mem_cons.1 hx with rfl | hx
    · have := (List.perm_cons x).1 h
      have := List.perm_singleton.1 this
      left; rw [List.cons.injEq] at this; rw [this.1]
    · have hx := List.mem_singleton.1 hx
      subst hx
      have h2 : [x, y].Perm [x, a] := h.trans (List.Perm.swap ..)
      have := List.perm_singleton.1 ((List.perm_cons x).1 h2)
      right; rw [List.cons.injEq] at this; rw [this.1]
theorem exD_sorted {l : List GDebt} (h : StD exD l) : l = [⟨2, 2, 3, 50⟩, ⟨1, 1, 2, 100⟩] := by
  rcases perm_two h.perm with e | e
  · have := h.srt
    rw [e] at this
    have := (List.pairwise_cons.1 this).1 50 (by simp)
    simp at this
  · exact e
theorem plan_is {ds : List GDebt} {os : List GOpening} {now er : Int} {all : Bool} {out : List GServing} {v1 v2 : Value} {w0 : World} (hE : ∀ (o : List GServing) (a : Bool) (e : Int), (if validI ds os now = true then e = 0 ∧ o.length ≤ 1000 ∧ ∃ l, StD ds l ∧ o = (planF now os l).1 ∧ a = (!(planF now os l).2.2 && decide ((planF now os l).2.1 = [])) else e = 140 ∧ o = [] ∧ a = false) → o = out ∧ a = all ∧ e = er)
    (hr1 : Rd fGDebt.ty w0 v1 ds) (hr2 : Rd fGOpening.ty w0 v2 os) (hl1 : ds.length ≤ 1000000) (hl2 : os.length ≤ 1000000) :
    CallsR Tryd.prog 16 #[v1, v2, .int .i64 now] w0 (fun v w' => ∃ vo, v = .tuple #[vo, .bool all, .int .i64 er] ∧ NewRow fGServing 56 w0 w' vo out) :=
  callsR_mono (plan_run hr1 hr2 hl1 hl2) fun v w' h => by
    obtain ⟨vo, o, a, e, rfl, hrow, hif⟩ := h.ex
    obtain ⟨rfl, rfl, rfl⟩ := hE o a e hif
    exact ⟨vo, rfl, hrow⟩
theorem lack_is {ds : List GDebt} {os : List GOpening} {now n : Int} {b : Bool} {v1 v2 : Value} {w0 : World} (hv : validI ds os now = true) (hE : IsLack now ds os n b)
    (hr1 : Rd fGDebt.ty w0 v1 ds) (hr2 : Rd fGOpening.ty w0 v2 os) (hl1 : ds.length ≤ 1000000) (hl2 : os.length ≤ 1000000) :
    CallsV Tryd.prog 17 #[v1, v2, .int .i64 now] w0 (.tuple #[.int .i64 n, .bool b]) := by
  refine ⟨Calls.mono (lack_run (now := now) hr1 hr2 hl1 hl2).out fun e w' ⟨v, he, hb, hR⟩ => ⟨?_, hb⟩⟩
  obtain ⟨m, c, rfl, hif⟩ := hR.ex
  rw [if_pos hv] at hif
  obtain ⟨rfl, rfl⟩ := hif.uniq hE
  exact he
theorem fold_is {l : List GDeed} {ds : List GDebt} {sm : GSums} {n er : Int} {v : Value} {w0 : World} (hE : foldI l = (ds, sm, n, er)) (hK : KindsAt w0) (hr : Rd fGDeed.ty w0 v l) (hl : l.length ≤ 1000000000) :
    CallsR Tryd.prog 12 #[v] w0 (fun v w' => ∃ vd, v = .tuple #[vd, .agg sm.enc.toArray, .int .i64 n, .int .i64 er] ∧ NewRow fGDebt 33 w0 w' vd ds) :=
  callsR_mono (fold_run hK hr hl) fun v w' h => by
    obtain ⟨vd, ds', sm', n', er', rfl, hrow, he⟩ := h.ex
    rw [hE] at he
    cases he
    exact ⟨vd, rfl, hrow⟩
theorem owe_is {l : List GContract} {sp : List GSpot} {now due id er : Int} {out : List GDeed} {v1 v2 : Value} {w0 : World} (hE : oweI l sp now due id = (out, er)) (hr1 : Rd fGContract.ty w0 v1 l) (hr2 : Rd fGSpot.ty w0 v2 sp) (hl : l.length ≤ 1000000000) (hl2 : sp.length ≤ 1000000000) (hG : TblAt w0) :
    CallsR Tryd.prog 25 #[v1, v2, .int .i64 now, .int .i64 due, .int .i64 id] w0 (fun v w' => ∃ vo, v = .tuple #[vo, .int .i64 er] ∧ NewRow fGDeed 36 w0 w' vo out) :=
  callsR_mono (owe_run hr1 hr2 hl hl2 hG) fun v w' h => by rw [hE] at h; exact h
theorem check_is {ds : List GDebt} {os : List GOpening} {now : Int} {l : List GServing} {b : Bool} {v1 v2 v3 : Value} {w0 : World} (hE : checkI ds os now l = b) (hr1 : Rd fGDebt.ty w0 v1 ds) (hr2 : Rd fGOpening.ty w0 v2 os) (hr3 : Rd fGServing.ty w0 v3 l) (hl1 : ds.length ≤ 1000000) (hl2 : os.length ≤ 1000000) (hl3 : l.length ≤ 1000000000) :
    CallsV Tryd.prog 18 #[v1, v2, .int .i64 now, v3] w0 (.bool b) := by rw [← hE]; exact check_run hr1 hr2 hr3 hl1 hl2 hl3
theorem validV_is {ds : List GDebt} {os : List GOpening} {now : Int} {b : Bool} {v1 v2 : Value} {w0 : World} (hE : validI ds os now = b) (hr1 : Rd fGDebt.ty w0 v1 ds) (hr2 : Rd fGOpening.ty w0 v2 os) (hl1 : ds.length ≤ 1000000000) (hl2 : os.length ≤ 1000000000) :
    CallsV Tryd.prog 29 #[v1, v2, .int .i64 now] w0 (.bool b) := by rw [← hE]; exact validI_spec hr1 hr2 hl1 hl2
theorem sameD_is {l m : List GDebt} {b : Bool} {v v2 : Value} {w : World} (hE : decide (l = m) = b) (hr : Rd fGDebt.ty w v l) (hr2 : Rd fGDebt.ty w v2 m) (hl : l.length ≤ 1000000000) (hm : m.length ≤ 1000000000) : CallsV Tryd.prog 28 #[v, v2] w (.bool b) := by rw [← hE]; exact sameD_spec hr hr2 hl hm
theorem sameS_is {l m : List GServing} {b : Bool} {v v2 : Value} {w : World} (hE : decide (l = m) = b) (hr : Rd fGServing.ty w v l) (hr2 : Rd fGServing.ty w v2 m) (hl : l.length ≤ 1000000000) (hm : m.length ≤ 1000000000) : CallsV Tryd.prog 27 #[v, v2] w (.bool b) := by rw [← hE]; exact sameS_spec hr hr2 hl hm
theorem exV0 : validI exD exO 0 = true := by decide +kernel
theorem exV20 : validI exD exO 20 = true := by decide +kernel
theorem exP0 {o : List GServing} {a : Bool} {e : Int} (h : if validI exD exO 0 = true then e = 0 ∧ o.length ≤ 1000 ∧ ∃ l, StD exD l ∧ o = (planF 0 exO l).1 ∧ a = (!(planF 0 exO l).2.2 && decide ((planF 0 exO l).2.1 = [])) else e = 140 ∧ o = [] ∧ a = false) : o = exA ∧ a = true ∧ e = 0 := by
  rw [if_pos exV0] at h
  obtain ⟨h1, _, l, hl, h2, h3⟩ := h
  rw [exD_sorted hl] at h2 h3
  exact ⟨h2.trans (by decide +kernel), h3.trans (by decide +kernel), h1⟩
theorem exP20 {o : List GServing} {a : Bool} {e : Int} (h : if validI exD exO 20 = true then e = 0 ∧ o.length ≤ 1000 ∧ ∃ l, StD exD l ∧ o = (planF 20 exO l).1 ∧ a = (!(planF 20 exO l).2.2 && decide ((planF 20 exO l).2.1 = [])) else e = 140 ∧ o = [] ∧ a = false) : o = exB ∧ a = false ∧ e = 0 := by
  rw [if_pos exV20] at h
  obtain ⟨h1, _, l, hl, h2, h3⟩ := h
  rw [exD_sorted hl] at h2 h3
  exact ⟨h2.trans (by decide +kernel), h3.trans (by decide +kernel), h1⟩
theorem exPn {o : List GServing} {a : Bool} {e : Int} (h : if validI exD exO (-1) = true then e = 0 ∧ o.length ≤ 1000 ∧ ∃ l, StD exD l ∧ o = (planF (-1) exO l).1 ∧ a = (!(planF (-1) exO l).2.2 && decide ((planF (-1) exO l).2.1 = [])) else e = 140 ∧ o = [] ∧ a = false) : o = [] ∧ a = false ∧ e = 140 := by
  rw [if_neg (by decide +kernel)] at h
  exact ⟨h.2.1, h.2.2, h.1⟩
theorem exL20 : IsLack 20 exD exO 50 true := by
  refine .inl ⟨rfl, ⟨⟨2, 2, 3, 50⟩, by simp [exD], rfl⟩, by decide +kernel, fun d hd h => ?_⟩
  simp [exD] at hd
  rcases hd with rfl | rfl <;> simp at h
theorem exL0 : IsLack 0 exD exO 0 false := by
  refine .inr ⟨rfl, rfl, fun d hd => ?_⟩
  simp [exD] at hd
  rcases hd with rfl | rfl <;> decide +kernel
theorem exF10 : foldI (exL 10) = ([⟨1, 3, 1, 100⟩, ⟨2, 4, 1, 100⟩], ⟨5, 2, 1, 1, 2⟩, 4, 0) := by decide +kernel
theorem exF100 : foldI (exL 100) = ([], ⟨0, 0, 0, 0, 0⟩, 1, 140) := by decide +kernel
theorem exC0 : checkI exD exO 0 exA = true := by decide +kernel
theorem exC20 : checkI exD exO 20 exB = false := by decide +kernel
end Go.Proofs.YtgdmaadikcnagaaDoor
/- The examples of the chapter, walked. -/
namespace Go.Proofs.YtgdmaadikcnagaaDoor
open Go Go.Gx Go.RowKit
set_option linter.unusedVariables false
set_option linter.unusedSimpArgs false

theorem wl_forgetD {P : Program} {n : Nat} {ops : Array Oper} {Q : Post} {σ : Nat → Value} {w : World} {rest : List Oper} (L : List (Nat × Value)) (h : Has σ L) (k : ∀ σ', Has σ' L → wl P n ops Q rest σ' w) : wl P n ops Q rest σ w := k σ h
theorem exOwe : oweI [default] [] 0 1 0 = ([], 140) := by decide +kernel
set_option maxHeartbeats 4000000 in
theorem sane_spec {w0 : World} (hG : TblAt w0) (hK : KindsAt w0) : CallsV Tryd.prog 10 #[] w0 (.bool true) := by
  have S := St.start w0
  refine CallsV.mk ?_
  refine calls_enter Tryd.func10 rfl (by intro _ h; first | exact nomatch h.1 | (obtain ⟨_, h, _⟩ := h; exact nomatch h)) Tryd.ntmps10 rfl ?_
  repeat' (first | refine WP_seq ?_ | refine WP_region ?_ | refine wl_nil ?_ | refine then_normal ?_ | (refine g_assign ?_; refine st_assign rfl ?_) | (refine g_build ?_; refine st_val rfl (bd33_0_1_2_3 rfl rfl rfl rfl) ?_))
  refine st_valE rfl (r_litF (D := fGDebt) exD (fun x => .agg x.enc.toArray) S rfl rfl (fun _ => rfl) rfl (by decide) (by decide)) ?_
  rintro _ w ⟨k1, rfl, -, -, S'⟩; replace S := S'; clear S'
  repeat' (first | refine WP_seq ?_ | refine WP_region ?_ | refine wl_nil ?_ | refine then_normal ?_ | (refine g_assign ?_; refine st_assign rfl ?_) | (refine g_build ?_; refine st_val rfl (bd52_0_1 rfl rfl) ?_))
  refine st_valE rfl (r_litF (D := fGOpening) exO (fun x => .agg x.enc.toArray) S rfl rfl (fun _ => rfl) rfl (by decide) (by decide)) ?_
  rintro _ w ⟨k2, rfl, -, -, S'⟩; replace S := S'; clear S'
  repeat' (first | refine WP_seq ?_ | refine WP_region ?_ | refine wl_nil ?_ | refine then_normal ?_ | (refine g_move ?_; refine st_move rfl ?_) | (refine g_assign ?_; refine st_assign rfl ?_))
  refine st_callR rfl (r_call3 rfl rfl rfl rfl) (plan_is (fun o a e => exP0) (S.rdRow (D := fGDebt) (i := 0) rfl) (S.rdRow (D := fGOpening) (i := 1) rfl) (by decide) (by decide)) ?_
  rintro _ w hb ⟨va, rfl, hrow⟩; replace S := S.new hb hrow; clear hb hrow
  repeat' (first | refine WP_seq ?_ | refine WP_region ?_ | refine wl_nil ?_ | refine then_normal ?_ | (refine g_move ?_; refine st_move rfl ?_) | (refine g_assign ?_; refine st_assign rfl ?_) | (refine g_extract ?_; refine st_val rfl (r_extract rfl rfl) ?_))
  refine st_callR rfl (r_call3 rfl rfl rfl rfl) (plan_is (fun o a e => exP20) (S.rdRow (D := fGDebt) (i := 0) rfl) (S.rdRow (D := fGOpening) (i := 1) rfl) (by decide) (by decide)) ?_
  rintro _ w hb ⟨vb, rfl, hrow⟩; replace S := S.new hb hrow; clear hb hrow
  repeat' (first | refine WP_seq ?_ | refine WP_region ?_ | refine wl_nil ?_ | refine then_normal ?_ | (refine g_move ?_; refine st_move rfl ?_) | (refine g_assign ?_; refine st_assign rfl ?_) | (refine g_extract ?_; refine st_val rfl (r_extract rfl rfl) ?_) | (refine g_callV ?_; first | (refine st_callV rfl (r_call3 rfl rfl rfl rfl) (lack_is exV20 exL20 (S.rdRow (D := fGDebt) (i := 0) rfl) (S.rdRow (D := fGOpening) (i := 1) rfl) (by decide) (by decide)) ?_; intro w hb; replace S := S.grow hb; clear hb) | (refine st_callV rfl (r_call3 rfl rfl rfl rfl) (lack_is exV0 exL0 (S.rdRow (D := fGDebt) (i := 0) rfl) (S.rdRow (D := fGOpening) (i := 1) rfl) (by decide) (by decide)) ?_; intro w hb; replace S := S.grow hb; clear hb)))
  refine st_callR rfl (r_call1 rfl rfl) example_run ?_
  rintro vx w hb hrow; replace S := S.new hb hrow; clear hb hrow
  refine st_callR rfl (r_call1 rfl rfl) (fold_is exF10 (hK.mono S.below) (S.rdRow (D := fGDeed) (i := 4) rfl) (by decide)) ?_
  rintro _ w hb ⟨vd, rfl, hrow⟩; replace S := S.new hb hrow; clear hb hrow
  repeat' (first | refine WP_seq ?_ | refine WP_region ?_ | refine wl_nil ?_ | refine then_normal ?_ | (refine g_move ?_; refine st_move rfl ?_) | (refine g_assign ?_; refine st_assign rfl ?_) | (refine g_extract ?_; refine st_val rfl (r_extract rfl rfl) ?_) | (refine g_alloc ?_; refine st_valE rfl (r_alloc S) ?_; rintro _ w ⟨b, rfl, -, S'⟩; replace S := S'; clear S') | (refine g_store ?_; first | (refine st_skipE rfl (r_storeVar (i := 0) S rfl rfl rfl rfl (of_decide_eq_true rfl) (of_decide_eq_true rfl)) ?_; intro w S'; replace S := S'; clear S') | (refine st_skipE rfl (r_storeVar (i := 1) S rfl rfl rfl rfl (of_decide_eq_true rfl) (of_decide_eq_true rfl)) ?_; intro w S'; replace S := S'; clear S') | (refine st_skipE rfl (r_storeVar (i := 2) S rfl rfl rfl rfl (of_decide_eq_true rfl) (of_decide_eq_true rfl)) ?_; intro w S'; replace S := S'; clear S') | (refine st_skipE rfl (r_storeVar (i := 3) S rfl rfl rfl rfl (of_decide_eq_true rfl) (of_decide_eq_true rfl)) ?_; intro w S'; replace S := S'; clear S') | (refine st_skipE rfl (r_storeVar (i := 4) S rfl rfl rfl rfl (of_decide_eq_true rfl) (of_decide_eq_true rfl)) ?_; intro w S'; replace S := S'; clear S') | (refine st_skipE rfl (r_storeVar (i := 5) S rfl rfl rfl rfl (of_decide_eq_true rfl) (of_decide_eq_true rfl)) ?_; intro w S'; replace S := S'; clear S') | (refine st_skipE rfl (r_storeVar (i := 6) S rfl rfl rfl rfl (of_decide_eq_true rfl) (of_decide_eq_true rfl)) ?_; intro w S'; replace S := S'; clear S') | (refine st_skipE rfl (r_storeVar (i := 7) S rfl rfl rfl rfl (of_decide_eq_true rfl) (of_decide_eq_true rfl)) ?_; intro w S'; replace S := S'; clear S')))
  refine st_callR rfl (r_call1 rfl rfl) example_run ?_
  rintro vx2 w hb hrow; replace S := S.new hb hrow; clear hb hrow
  refine st_callR rfl (r_call1 rfl rfl) (fold_is exF100 (hK.mono S.below) (S.rdRow (D := fGDeed) (i := 7) rfl) (by decide)) ?_
  rintro _ w hb ⟨vd2, rfl, hrow⟩; replace S := S.new hb hrow; clear hb hrow
  repeat' (first | (refine g_move ?_; refine st_move rfl ?_) | (refine g_extract ?_; refine st_val rfl (r_extract rfl rfl) ?_))
  refine g_alloc ?_
  refine st_valE rfl (r_alloc S) ?_
  rintro _ w ⟨b9, rfl, -, S'⟩; replace S := S'; clear S'
  repeat' (first | refine WP_seq ?_ | refine WP_region ?_ | refine wl_nil ?_ | refine then_normal ?_ | (refine g_assign ?_; refine st_assign rfl ?_) | (refine g_build ?_; refine st_val rfl (bd76_ ) ?_) | (refine g_store ?_; first | (refine st_skipE rfl (r_storeVar (i := 0) S rfl rfl rfl rfl (of_decide_eq_true rfl) (of_decide_eq_true rfl)) ?_; intro w S'; replace S := S'; clear S') | (refine st_skipE rfl (r_storeVar (i := 1) S rfl rfl rfl rfl (of_decide_eq_true rfl) (of_decide_eq_true rfl)) ?_; intro w S'; replace S := S'; clear S') | (refine st_skipE rfl (r_storeVar (i := 2) S rfl rfl rfl rfl (of_decide_eq_true rfl) (of_decide_eq_true rfl)) ?_; intro w S'; replace S := S'; clear S') | (refine st_skipE rfl (r_storeVar (i := 3) S rfl rfl rfl rfl (of_decide_eq_true rfl) (of_decide_eq_true rfl)) ?_; intro w S'; replace S := S'; clear S') | (refine st_skipE rfl (r_storeVar (i := 4) S rfl rfl rfl rfl (of_decide_eq_true rfl) (of_decide_eq_true rfl)) ?_; intro w S'; replace S := S'; clear S') | (refine st_skipE rfl (r_storeVar (i := 5) S rfl rfl rfl rfl (of_decide_eq_true rfl) (of_decide_eq_true rfl)) ?_; intro w S'; replace S := S'; clear S') | (refine st_skipE rfl (r_storeVar (i := 6) S rfl rfl rfl rfl (of_decide_eq_true rfl) (of_decide_eq_true rfl)) ?_; intro w S'; replace S := S'; clear S') | (refine st_skipE rfl (r_storeVar (i := 7) S rfl rfl rfl rfl (of_decide_eq_true rfl) (of_decide_eq_true rfl)) ?_; intro w S'; replace S := S'; clear S') | (refine st_skipE rfl (r_storeVar (i := 8) S rfl rfl rfl rfl (of_decide_eq_true rfl) (of_decide_eq_true rfl)) ?_; intro w S'; replace S := S'; clear S') | (refine st_skipE rfl (r_storeVar (i := 9) S rfl rfl rfl rfl (of_decide_eq_true rfl) (of_decide_eq_true rfl)) ?_; intro w S'; replace S := S'; clear S')))
  refine st_valE rfl (r_litF (D := fGContract) [default] (fun y => .agg y.enc.toArray) S rfl rfl (fun _ => rfl) rfl (by decide) (by decide)) ?_
  rintro _ w ⟨k3, rfl, -, -, S'⟩; replace S := S'; clear S'
  refine st_callR rfl (r_call5 rfl rfl rfl rfl rfl rfl) (owe_is exOwe (S.rdRow (D := fGContract) (i := 10) rfl) (Rd.nil fGSpot.ty w) (by decide) (by decide) (hG.mono S.below)) ?_
  rintro _ w hb ⟨vo, rfl, -⟩; replace S := S.grow hb; clear hb
  repeat' (first | refine WP_seq ?_ | refine WP_region ?_ | refine wl_nil ?_ | refine then_normal ?_ | (refine g_move ?_; refine st_move rfl ?_) | (refine g_assign ?_; refine st_assign rfl ?_) | (refine g_extract ?_; refine st_val rfl (r_extract rfl rfl) ?_))
  refine st_callR rfl (r_call3 rfl rfl rfl rfl) (plan_is (fun o a e => exPn) (S.rdRow (D := fGDebt) (i := 0) rfl) (S.rdRow (D := fGOpening) (i := 1) rfl) (by decide) (by decide)) ?_
  rintro _ w hb ⟨vn, rfl, -⟩; replace S := S.grow hb; clear hb
  replace S : St w0 w [rowOb fGDebt 33 (.slice (some ⟨k1, 0, none⟩) 2 2) exD, rowOb fGOpening 52 (.slice (some ⟨k2, 0, none⟩) 3 3) exO, rowOb fGServing 56 va exA, rowOb fGServing 56 vb exB, rowOb fGDebt 33 vd [⟨1, 3, 1, 100⟩, ⟨2, 4, 1, 100⟩], .var b 28 (GSums.mk 5 2 1 1 2).enc] := S.keep [true, true, true, true, false, true, true]
  repeat' (first | refine WP_seq ?_ | refine WP_region ?_ | refine wl_nil ?_ | refine then_normal ?_ | refine WP_skip ?_ | refine WP_condF rfl ?_ | (refine g_move ?_; refine st_move rfl ?_) | (refine g_assign ?_; refine st_assign rfl ?_) | (refine g_pick ?_; refine st_pickF rfl rfl ?_) | (refine g_b_neq ?_; refine st_val rfl (r_neq rfl rfl) ?_) | (refine g_build ?_; refine st_val rfl (bd56_0_1_2 rfl rfl rfl) ?_) | (refine g_un ?_; refine st_val rfl (r_not rfl) ?_) | (refine g_extract ?_; refine st_val rfl (r_extract rfl rfl) ?_))
  refine wl_forgetD [(1, .slice (some ⟨k1, 0, none⟩) 2 2), (2, .slice (some ⟨k2, 0, none⟩) 3 3), (3, va), (6, vb), (9, .int .i64 50), (13, vd), (14, .pointer (some ⟨b, 0, none⟩)), (15, .int .i64 4), (19, .int .i64 1), (124, va), (125, .agg (GServing.enc ⟨2, 10, 2⟩).toArray), (126, .agg (GServing.enc ⟨2, 40, 1⟩).toArray), (127, .agg (GServing.enc ⟨1, 40, 1⟩).toArray), (128, .agg (GServing.enc ⟨1, 60, 1⟩).toArray)] ⟨rfl, rfl, rfl, rfl, rfl, rfl, rfl, rfl, rfl, rfl, rfl, rfl, rfl, rfl, trivial⟩ ?_
  intro σ hs
  refine wl_has hs ?_
  skip
  refine st_valE rfl (r_litF (D := fGServing) exA (fun y => .agg y.enc.toArray) S rfl rfl (fun _ => rfl) rfl (by decide) (by decide)) ?_
  rintro _ w ⟨k4, rfl, -, -, S'⟩; replace S := S'; clear S'
  repeat' (first | (refine g_move ?_; refine st_move rfl ?_) | (refine g_build ?_; refine st_val rfl (bd56_0_1_2 rfl rfl rfl) ?_) | (refine g_callV ?_; (refine st_callV rfl (r_call2 rfl rfl rfl) (sameS_is (l := exA) (m := exA) (b := true) (by decide +kernel) (S.rdRow (D := fGServing) (i := 2) rfl) (S.rdRow (D := fGServing) (i := 6) rfl) (by decide) (by decide)) ?_; intro w hb; replace S := S.grow hb; clear hb)))
  refine st_valE rfl (r_litF (D := fGServing) exB (fun y => .agg y.enc.toArray) S rfl rfl (fun _ => rfl) rfl (by decide) (by decide)) ?_
  rintro _ w ⟨k5, rfl, -, -, S'⟩; replace S := S'; clear S'
  repeat' (first | refine WP_seq ?_ | refine WP_region ?_ | refine wl_nil ?_ | refine then_normal ?_ | (refine g_move ?_; refine st_move rfl ?_) | (refine g_assign ?_; refine st_assign rfl ?_) | (refine g_pick ?_; refine st_pickT rfl rfl ?_) | (refine g_build ?_; refine st_val rfl (bd33_0_1_2_3 rfl rfl rfl rfl) ?_) | (refine g_callV ?_; (refine st_callV rfl (r_call2 rfl rfl rfl) (sameS_is (l := exB) (m := exB) (b := true) (by decide +kernel) (S.rdRow (D := fGServing) (i := 3) rfl) (S.rdRow (D := fGServing) (i := 7) rfl) (by decide) (by decide)) ?_; intro w hb; replace S := S.grow hb; clear hb)))
  refine st_valE rfl (r_litF (D := fGDebt) [⟨1, 3, 1, 100⟩, ⟨2, 4, 1, 100⟩] (fun y => .agg y.enc.toArray) S rfl rfl (fun _ => rfl) rfl (by decide) (by decide)) ?_
  rintro _ w ⟨k6, rfl, -, -, S'⟩; replace S := S'; clear S'
  repeat' (first | refine WP_seq ?_ | refine WP_region ?_ | refine wl_nil ?_ | refine then_normal ?_ | refine WP_ret ?_ | (refine g_move ?_; refine st_move rfl ?_) | (refine g_assign ?_; refine st_assign rfl ?_) | (refine g_pick ?_; refine st_pickT rfl rfl ?_) | (refine g_b_eql ?_; first | refine st_val rfl (r_eql rfl rfl) ?_ | refine st_val rfl (eql28 rfl rfl) ?_) | (refine g_build ?_; refine st_val rfl (bd28_0_1_2_3_4 rfl rfl rfl rfl rfl) ?_) | (refine g_un ?_; refine st_val rfl (r_not rfl) ?_) | (refine g_load ?_; refine st_val rfl (r_loadVarA (i := 5) S rfl rfl rfl rfl) ?_) | (refine g_callV ?_; first | (refine st_callV rfl (r_call2 rfl rfl rfl) (sameD_is (l := [⟨1, 3, 1, 100⟩, ⟨2, 4, 1, 100⟩]) (m := [⟨1, 3, 1, 100⟩, ⟨2, 4, 1, 100⟩]) (b := true) (by decide +kernel) (S.rdRow (D := fGDebt) (i := 4) rfl) (S.rdRow (D := fGDebt) (i := 8) rfl) (by decide) (by decide)) ?_; intro w hb; replace S := S.grow hb; clear hb) | (refine st_callV rfl (r_call4 rfl rfl rfl rfl rfl) (check_is exC0 (S.rdRow (D := fGDebt) (i := 0) rfl) (S.rdRow (D := fGOpening) (i := 1) rfl) (S.rdRow (D := fGServing) (i := 2) rfl) (by decide) (by decide) (by decide)) ?_; intro w hb; replace S := S.grow hb; clear hb) | (refine st_callV rfl (r_call4 rfl rfl rfl rfl rfl) (check_is exC20 (S.rdRow (D := fGDebt) (i := 0) rfl) (S.rdRow (D := fGOpening) (i := 1) rfl) (S.rdRow (D := fGServing) (i := 3) rfl) (by decide) (by decide) (by decide)) ?_; intro w hb; replace S := S.grow hb; clear hb) | (refine st_callV rfl (r_call3 rfl rfl rfl rfl) (validV_is exV0 (S.rdRow (D := fGDebt) (i := 0) rfl) (S.rdRow (D := fGOpening) (i := 1) rfl) (by decide) (by decide)) ?_; intro w hb; replace S := S.grow hb; clear hb)))
  all_goals exact end1 rfl rfl ⟨rfl, S.below⟩
end Go.Proofs.YtgdmaadikcnagaaDoor
/- Debts and openings that integers determine. -/
namespace Go.Proofs.YtgdmaadikcnagaaDoor
open Go Go.Gx Go.RowKit
set_option linter.unusedVariables false
set_option linter.unusedSimpArgs false

def okA3 (x : GArr3Int) : Prop := inI x.a0 ∧ inI x.a1 ∧ inI x.a2
theorem one_o : ∀ (x : GOpening), ∀ u ∈ fGOpening.enc x, u.oneCell' = true := by intro x u hu; simp [fGOpening, GOpening.enc] at hu; rcases hu with rfl | rfl <;> rfl
def debtC (i : Int) (K : GArr3Int) : GDebt := ⟨5 * i + pickI K.a0 5, pickI K.a0 100, 1 + pickI K.a1 8, pickI K.a2 300⟩
def debtsN (xs : List GArr3Int) (n : Nat) : List GDebt := (List.range n).map fun (i : Nat) => debtC (i : Int) (nth xs (i : Int))
/-- Debts that integers determine. -/
def debtsL (xs : List GArr3Int) : List GDebt := debtsN xs (min xs.length 10)
theorem debtsN_succ (xs : List GArr3Int) (n : Nat) : debtsN xs (n + 1) = debtsN xs n ++ [debtC (n : Int) (nth xs (n : Int))] := by unfold debtsN; rw [List.range_succ, List.map_append]; rfl
theorem debtsN_len (xs : List GArr3Int) (n : Nat) : (debtsN xs n).length = n := by simp [debtsN]
theorem debts_run {v : Value} {xs : List GArr3Int} {w0 : World} (hr : Rd fGArr3Int.ty w0 v xs) (hx : ∀ x ∈ xs, okA3 x) (hl : xs.length ≤ maxLen) :
    CallsR Tryd.prog 14 #[v] w0 (fun r w' => NewRow fGDebt 33 w0 w' r (debtsL xs)) := by
  have S := St.start w0
  have hml : maxLen ≤ 9223372036854775807 := by decide
  obtain ⟨A, c, rfl⟩ := hr.len
  refine CallsR.mk ?_
  refine calls_enter Tryd.func14 rfl (by intro _ h; first | exact nomatch h.1 | (obtain ⟨_, h, _⟩ := h; exact nomatch h)) Tryd.ntmps14 rfl ?_
  repeat' (first | refine WP_seq ?_ | refine WP_region ?_ | refine wl_nil ?_ | refine then_normal ?_ | refine WP_block ?_ | (refine g_assign ?_; refine st_assign rfl ?_))
  replace S := S.nilRow fGDebt 33
  refine WP_loop (fun m σ w1 => ∃ (i : Nat) (p : Int) (vo : Value), Has σ [(0, .slice A xs.length c), (3, vo), (4, .int .i64 p)] ∧ St w0 w1 [rowOb fGDebt 33 vo (debtsN xs i)] ∧ p = i ∧ i ≤ min xs.length 10 ∧ m = 10 - i) 10 ⟨0, _, _, ⟨rfl, rfl, rfl, trivial⟩, S, rfl, by omega, rfl⟩ ?_
  clear S
  rintro m σ w1 ⟨i, p, vo, hs, S, hp, hi1, hm⟩
  refine WP_has hs ?_
  have hol := debtsN_len xs i
  by_cases hi : i < min xs.length 10
  · obtain ⟨x0, x1, x2⟩ := hx _ (mem_nth (l := xs) (i := p) (by omega) (by omega))
    unfold inI at x0 x1 x2
    have r0 := pickI_range (c := (nth xs p).a0) (n := 5) (by omega)
    have r1 := pickI_range (c := (nth xs p).a1) (n := 8) (by omega)
    repeat' (first | refine WP_seq ?_ | refine WP_region ?_ | refine wl_nil ?_ | refine then_normal ?_ | refine WP_skip ?_ | refine WP_block ?_ | refine WP_drawTail 30 (by kernel_rfl) (by decide +kernel) ?_ | (refine ql_nil ?_; intro w hb; replace S := S.grow hb; clear hb) | (refine g_move ?_; refine st_move rfl ?_) | (refine g_pick ?_; refine st_pickT rfl rfl ?_) | (refine g_b_lss ?_; refine st_val rfl (r_lss rfl rfl) ?_) | (refine g_c_len ?_; refine st_val rfl (r_lenSlice rfl) ?_) | (refine gq_move ?_; refine q_move rfl ?_) | (refine gq_b_add ?_; (refine q_val rfl (fun w' hb => r_addN rfl rfl ?_ ?_) ?_; (first | omega | (simp <;> omega)); (first | omega | (simp <;> omega)))) | (refine gq_b_mul ?_; (refine q_val rfl (fun w' hb => r_mulN rfl rfl ?_ ?_) ?_; (first | omega | (simp <;> omega)); (first | omega | (simp <;> omega)))) | (refine gq_build ?_; refine q_val rfl (fun w' hb => bd33_0_1_2_3 rfl rfl rfl rfl) ?_) | (refine gq_indexAddr ?_; first | (refine q_val rfl (fun w' hb => r_indexAddr (hr.mono (S.grow hb).below) rfl rfl ?_ ?_) ?_; (first | omega | (simp <;> omega)); (first | omega | (simp <;> omega))) | (refine q_val rfl (fun w' hb => r_indexAddrArrE rfl rfl ?_ ?_) ?_; (first | omega | (simp <;> omega)); (first | omega | (simp <;> omega)))) | (refine gq_load ?_; first | (refine q_val rfl (fun w' hb => r_loadElem1 (hr.mono (S.grow hb).below) rfl ?_ ?_ rfl) ?_; (first | omega | (simp <;> omega)); (first | omega | (simp <;> omega))) | (refine q_val rfl (fun w' hb => r_loadElemF (hr.mono (S.grow hb).below) rfl ?_ ?_ rfl) ?_; (first | omega | (simp <;> omega)); (first | omega | (simp <;> omega)))) | (refine gq_callV ?_; refine q_callV rfl (fun w' hb => r_call2 rfl rfl rfl) (fun w' hb => pickR_spec (by omega) (by omega) (by omega)) ?_) | (refine wl_split rfl rfl (fun h => ?_) (fun h => ?_) <;> (fail_if_success (have hh : true = true := h)) <;> (fail_if_success (have hh : false = false := h)) <;> (try simp only [decide_eq_true_eq, decide_eq_false_iff_not, Bool.not_eq_true', Bool.not_eq_false', Int.not_lt, Int.not_le] at h) <;> (try (exfalso; omega)) <;> (try (exfalso; omega; done))) | (refine WP_cond rfl (fun h => ?_) (fun h => ?_) <;> (fail_if_success (have hh : true = true := h)) <;> (fail_if_success (have hh : false = false := h)) <;> (try simp only [decide_eq_true_eq, decide_eq_false_iff_not, Bool.not_eq_true', Bool.not_eq_false', Int.not_lt, Int.not_le] at h) <;> (try (exfalso; omega)) <;> (try (exfalso; omega; done))))
    refine st_valE rfl (r_litF (D := fGDebt) [debtC p (nth xs p)] (fun y => .agg y.enc.toArray) S rfl rfl (fun _ => rfl) rfl (by decide) (by decide)) ?_
    rintro _ w ⟨bl, rfl, -, hcl, S'⟩; replace S := S'; clear S'
    refine st_valE rfl (r_append1 (D := fGDebt) (i := 0) (b := bl) (x := debtC p (nth xs p)) S rfl rfl rfl (fl_one hcl) rfl (by decide) (one_d _) (by omega) (by omega)) ?_
    rintro vo' w ⟨-, S'⟩; replace S := S'; clear S' hcl
    repeat' (first | refine WP_region ?_ | refine wl_nil ?_ | refine then_normal ?_ | refine inB_normal ?_ | (refine g_move ?_; refine st_move rfl ?_) | (refine g_assign ?_; refine st_assign rfl ?_) | (refine g_b_add ?_; (refine st_val rfl (r_addN rfl rfl ?_ ?_) ?_; (first | omega | (simp <;> omega)); (first | omega | (simp <;> omega)))))
    refine ⟨⟨_, ?_, i + 1, _, vo', ⟨rfl, rfl, rfl, trivial⟩, by rw [debtsN_succ, ← hp]; exact S.keep [true], by omega, by omega, rfl⟩⟩
    omega
  · have hii : i = min xs.length 10 := by omega
    subst hii
    repeat' (first | refine WP_seq ?_ | refine WP_region ?_ | refine wl_nil ?_ | refine then_normal ?_ | refine then_exit ?_ | refine inB_here ?_ | refine WP_ret ?_ | refine WP_exit ?_ | refine WP_condF rfl ?_ | (refine g_guard ?_; refine st_off rfl ?_) | (refine g_move ?_; refine st_move rfl ?_) | (refine g_assign ?_; refine st_assign rfl ?_) | (refine g_pick ?_; first | refine st_pickT rfl rfl ?_ | refine st_pickF rfl rfl ?_) | (refine g_b_lss ?_; refine st_val rfl (r_lss rfl rfl) ?_) | (refine g_c_len ?_; refine st_val rfl (r_lenSlice rfl) ?_) | (refine wl_split rfl rfl (fun h => ?_) (fun h => ?_) <;> (fail_if_success (have hh : true = true := h)) <;> (fail_if_success (have hh : false = false := h)) <;> (try simp only [decide_eq_true_eq, decide_eq_false_iff_not, Bool.not_eq_true', Bool.not_eq_false', Int.not_lt, Int.not_le] at h) <;> (try (exfalso; omega)) <;> (try (exfalso; omega; done))) | (refine WP_cond rfl (fun h => ?_) (fun h => ?_) <;> (fail_if_success (have hh : true = true := h)) <;> (fail_if_success (have hh : false = false := h)) <;> (try simp only [decide_eq_true_eq, decide_eq_false_iff_not, Bool.not_eq_true', Bool.not_eq_false', Int.not_lt, Int.not_le] at h) <;> (try (exfalso; omega)) <;> (try (exfalso; omega; done))))
    all_goals exact end1 rfl rfl ⟨_, rfl, S.below, S.row (i := 0) rfl⟩
/-- Openings that integers determine, behind a second. -/
def opG : Int → List GArr2Int → List GOpening
  | _, [] => []
  | t, K :: r => ⟨t + 1 + pickI K.a0 40, 1 + pickI K.a1 6⟩ :: opG (t + 1 + pickI K.a0 40) r
def opT : Int → List GArr2Int → Int
  | t, [] => t
  | t, K :: r => opT (t + 1 + pickI K.a0 40) r
def opsL (xs : List GArr2Int) : List GOpening := opG (-1) (xs.take 16)
theorem opG_snoc {K : GArr2Int} : ∀ {l : List GArr2Int} {t : Int}, opG t (l ++ [K]) = opG t l ++ [⟨opT t l + 1 + pickI K.a0 40, 1 + pickI K.a1 6⟩] ∧ opT t (l ++ [K]) = opT t l + 1 + pickI K.a0 40
  | [], t => ⟨rfl, rfl⟩
  | a :: r, t => by
    have := opG_snoc (K := K) (l := r) (t := t + 1 + pickI a.a0 40)
    simp only [List.cons_append, opG, opT, this]
    simp
theorem opG_len : ∀ {l : List GArr2Int} {t : Int}, (opG t l).length = l.length
  | [], _ => rfl
  | a :: r, t => by simp [opG, opG_len]
theorem opT_le : ∀ {l : List GArr2Int} {t : Int}, t ≤ opT t l ∧ opT t l ≤ t + 40 * l.length
  | [], t => by simp [opT]
  | a :: r, t => by
    have h := opT_le (l := r) (t := t + 1 + pickI a.a0 40)
    have p := pickI_range (c := a.a0) (n := 40) (by omega)
    simp only [opT, List.length_cons]; omega
theorem opens_run {v : Value} {xs : List GArr2Int} {w0 : World} (hr : Rd fGArr2Int.ty w0 v xs) (hx : ∀ x ∈ xs, okA2 x) (hl : xs.length ≤ maxLen) :
    CallsR Tryd.prog 15 #[v] w0 (fun r w' => NewRow fGOpening 52 w0 w' r (opsL xs)) := by
  have S := St.start w0
  have hml : maxLen ≤ 9223372036854775807 := by decide
  obtain ⟨A, c, rfl⟩ := hr.len
  refine CallsR.mk ?_
  refine calls_enter Tryd.func15 rfl (by intro _ h; first | exact nomatch h.1 | (obtain ⟨_, h, _⟩ := h; exact nomatch h)) Tryd.ntmps15 rfl ?_
  repeat' (first | refine WP_seq ?_ | refine WP_region ?_ | refine wl_nil ?_ | refine then_normal ?_ | refine WP_block ?_ | (refine g_assign ?_; refine st_assign rfl ?_))
  replace S := S.nilRow fGOpening 52
  refine WP_loop (fun m σ w1 => ∃ (p : Int) (vo : Value), Has σ [(0, .slice A xs.length c), (3, vo), (4, .int .i64 (opT (-1) (xs.take p.toNat))), (5, .int .i64 p)] ∧ St w0 w1 [rowOb fGOpening 52 vo (opG (-1) (xs.take p.toNat))] ∧ 0 ≤ p ∧ p ≤ min xs.length 16 ∧ m = 16 - p.toNat) 16 ⟨0, _, ⟨rfl, rfl, rfl, rfl, trivial⟩, S, by omega, by omega, rfl⟩ ?_
  clear S
  rintro m σ w1 ⟨p, vo, hs, S, hp, hi1, hm⟩
  refine WP_has hs ?_
  have hol := @opG_len (xs.take p.toNat) (-1)
  have hot := @opT_le (xs.take p.toNat) (-1)
  rw [List.length_take] at hol hot
  by_cases hi : p < min xs.length 16
  · obtain ⟨x0, x1⟩ := hx _ (mem_nth (l := xs) (i := p) (by omega) (by omega))
    unfold inI at x0 x1
    have r0 := pickI_range (c := (nth xs p).a0) (n := 40) (by omega)
    have r1 := pickI_range (c := (nth xs p).a1) (n := 6) (by omega)
    have hst := opG_snoc (K := nth xs p) (l := xs.take p.toNat) (t := -1)
    rw [← take_snoc hp (by omega)] at hst
    repeat' (first | refine WP_seq ?_ | refine WP_region ?_ | refine wl_nil ?_ | refine then_normal ?_ | refine WP_skip ?_ | refine WP_block ?_ | (refine g_move ?_; refine st_move rfl ?_) | (refine g_assign ?_; refine st_assign rfl ?_) | (refine g_pick ?_; refine st_pickT rfl rfl ?_) | (refine g_b_add ?_; (refine st_val rfl (r_addN rfl rfl ?_ ?_) ?_; (first | omega | (simp <;> omega)); (first | omega | (simp <;> omega)))) | (refine g_b_lss ?_; refine st_val rfl (r_lss rfl rfl) ?_) | (refine g_build ?_; refine st_val rfl (bd52_0_1 rfl rfl) ?_) | (refine g_c_len ?_; refine st_val rfl (r_lenSlice rfl) ?_) | (refine g_indexAddr ?_; first | (refine st_val rfl (r_indexAddr (hr.mono S.below) rfl rfl ?_ ?_) ?_; (first | omega | (simp <;> omega)); (first | omega | (simp <;> omega))) | (refine st_val rfl (r_indexAddrArrE rfl rfl ?_ ?_) ?_; (first | omega | (simp <;> omega)); (first | omega | (simp <;> omega)))) | (refine g_load ?_; first | (refine st_val rfl (r_loadElem1 (hr.mono S.below) rfl ?_ ?_ rfl) ?_; (first | omega | (simp <;> omega)); (first | omega | (simp <;> omega))) | (refine st_val rfl (r_loadElemF (hr.mono S.below) rfl ?_ ?_ rfl) ?_; (first | omega | (simp <;> omega)); (first | omega | (simp <;> omega)))) | (refine g_callV ?_; (refine st_callV rfl (r_call2 rfl rfl rfl) (pickR_spec (by omega) (by omega) (by omega)) ?_; intro w hb; replace S := S.grow hb; clear hb)) | (refine wl_split rfl rfl (fun h => ?_) (fun h => ?_) <;> (fail_if_success (have hh : true = true := h)) <;> (fail_if_success (have hh : false = false := h)) <;> (try simp only [decide_eq_true_eq, decide_eq_false_iff_not, Bool.not_eq_true', Bool.not_eq_false', Int.not_lt, Int.not_le] at h) <;> (try (exfalso; omega)) <;> (try (exfalso; omega; done))) | (refine WP_cond rfl (fun h => ?_) (fun h => ?_) <;> (fail_if_success (have hh : true = true := h)) <;> (fail_if_success (have hh : false = false := h)) <;> (try simp only [decide_eq_true_eq, decide_eq_false_iff_not, Bool.not_eq_true', Bool.not_eq_false', Int.not_lt, Int.not_le] at h) <;> (try (exfalso; omega)) <;> (try (exfalso; omega; done))))
    refine st_valE rfl (r_litF (D := fGOpening) [⟨opT (-1) (xs.take p.toNat) + 1 + pickI (nth xs p).a0 40, 1 + pickI (nth xs p).a1 6⟩] (fun y => .agg y.enc.toArray) S rfl rfl (fun _ => rfl) rfl (by decide) (by decide)) ?_
    rintro _ w ⟨bl, rfl, -, hcl, S'⟩; replace S := S'; clear S'
    refine st_valE rfl (r_append1 (D := fGOpening) (i := 0) (b := bl) (x := ⟨opT (-1) (xs.take p.toNat) + 1 + pickI (nth xs p).a0 40, 1 + pickI (nth xs p).a1 6⟩) S rfl rfl rfl (fl_one hcl) rfl (by decide) (one_o _) (by omega) (by omega)) ?_
    rintro vo' w ⟨-, S'⟩; replace S := S'; clear S' hcl
    repeat' (first | refine WP_region ?_ | refine wl_nil ?_ | refine then_normal ?_ | refine inB_normal ?_ | (refine g_move ?_; refine st_move rfl ?_) | (refine g_assign ?_; refine st_assign rfl ?_) | (refine g_b_add ?_; (refine st_val rfl (r_addN rfl rfl ?_ ?_) ?_; (first | omega | (simp <;> omega)); (first | omega | (simp <;> omega)))))
    refine ⟨⟨_, ?_, p + 1, vo', ⟨rfl, rfl, by rw [hst.2]; rfl, rfl, trivial⟩, by rw [hst.1]; exact S.keep [true], by omega, by omega, rfl⟩⟩
    omega
  · have hii : xs.take p.toNat = xs.take 16 := by
      by_cases h : xs.length ≤ 16
      · rw [List.take_of_length_le (by omega), List.take_of_length_le (by omega)]
      · rw [show p.toNat = 16 by omega]
    rw [hii] at S
    repeat' (first | refine WP_seq ?_ | refine WP_region ?_ | refine wl_nil ?_ | refine then_normal ?_ | refine then_exit ?_ | refine inB_here ?_ | refine WP_ret ?_ | refine WP_exit ?_ | refine WP_condF rfl ?_ | (refine g_guard ?_; refine st_off rfl ?_) | (refine g_move ?_; refine st_move rfl ?_) | (refine g_assign ?_; refine st_assign rfl ?_) | (refine g_pick ?_; first | refine st_pickT rfl rfl ?_ | refine st_pickF rfl rfl ?_) | (refine g_b_lss ?_; refine st_val rfl (r_lss rfl rfl) ?_) | (refine g_c_len ?_; refine st_val rfl (r_lenSlice rfl) ?_) | (refine wl_split rfl rfl (fun h => ?_) (fun h => ?_) <;> (fail_if_success (have hh : true = true := h)) <;> (fail_if_success (have hh : false = false := h)) <;> (try simp only [decide_eq_true_eq, decide_eq_false_iff_not, Bool.not_eq_true', Bool.not_eq_false', Int.not_lt, Int.not_le] at h) <;> (try (exfalso; omega)) <;> (try (exfalso; omega; done))) | (refine WP_cond rfl (fun h => ?_) (fun h => ?_) <;> (fail_if_success (have hh : true = true := h)) <;> (fail_if_success (have hh : false = false := h)) <;> (try simp only [decide_eq_true_eq, decide_eq_false_iff_not, Bool.not_eq_true', Bool.not_eq_false', Int.not_lt, Int.not_le] at h) <;> (try (exfalso; omega)) <;> (try (exfalso; omega; done))))
    all_goals exact end1 rfl rfl ⟨_, rfl, S.below, S.row (i := 0) rfl⟩
/-- What they determine is valid. -/
theorem debtsL_len (xs : List GArr3Int) : (debtsL xs).length ≤ 10 := by unfold debtsL; rw [debtsN_len]; omega
theorem debtsL_nth (xs : List GArr3Int) {j : Int} (h0 : 0 ≤ j) (hj : j < (debtsL xs).length) : nth (debtsL xs) j = debtC j (nth xs j) := by
  have h := nth_get h0 hj
  unfold debtsL debtsN at h
  rw [List.getElem?_map] at h
  have hj' : j.toNat < min xs.length 10 := by unfold debtsL at hj; rw [debtsN_len] at hj; omega
  rw [List.getElem?_range hj'] at h
  have this : debtC ((j.toNat : Nat) : Int) (nth xs ((j.toNat : Nat) : Int)) = _ := Option.some.inj h
  rw [show ((j.toNat : Nat) : Int) = j by omega] at this
  exact this.symm
theorem debtsL_ok (xs : List GArr3Int) {j : Int} (h0 : 0 ≤ j) (hj : j < (debtsL xs).length) : okDa (debtsL xs) j = true := by
  have hl := debtsL_len xs
  unfold okDa okDt
  have e := debtsL_nth xs h0 hj
  have p0 := pickI_range (c := (nth xs j).a0) (n := 5) (by omega)
  have p1 := pickI_range (c := (nth xs j).a0) (n := 100) (by omega)
  have p2 := pickI_range (c := (nth xs j).a1) (n := 8) (by omega)
  have p3 := pickI_range (c := (nth xs j).a2) (n := 300) (by omega)
  have hpv : prevD (debtsL xs) j < 5 * j := by
    rcases prevD_cases (debtsL xs) h0 with ⟨h, e2⟩ | ⟨h, e2⟩
    · omega
    · rw [e2, debtsL_nth xs (by omega) (by omega)]
      have := pickI_range (c := (nth xs (j - 1)).a0) (n := 5) (by omega)
      show 5 * (j - 1) + _ < _; omega
  rw [e]
  have hid : (debtC j (nth xs j)).ID = 5 * j + pickI (nth xs j).a0 5 := rfl
  simp only [Bool.and_eq_true, decide_eq_true_eq]
  refine ⟨⟨by omega, ?_⟩, by omega⟩
  show 0 ≤ pickI (nth xs j).a0 100 ∧ pickI (nth xs j).a0 100 ≤ 99 ∧ 1 ≤ 1 + pickI (nth xs j).a1 8 ∧ 1 + pickI (nth xs j).a1 8 ≤ 50 ∧ 0 ≤ pickI (nth xs j).a2 300 ∧ pickI (nth xs j).a2 300 ≤ 10000000
  omega
theorem opG_ok : ∀ {l : List GArr2Int} {t : Int}, (∀ o ∈ opG t l, t < o.At ∧ o.At ≤ t + 40 * l.length ∧ 1 ≤ o.Count ∧ o.Count ≤ 6) ∧ (opG t l).Pairwise (fun a b => a.At < b.At)
  | [], t => ⟨fun o h => (by cases h), List.Pairwise.nil⟩
  | a :: r, t => by
    have h := opG_ok (l := r) (t := t + 1 + pickI a.a0 40)
    have p := pickI_range (c := a.a0) (n := 40) (by omega)
    have q := pickI_range (c := a.a1) (n := 6) (by omega)
    simp only [opG, List.length_cons]
    refine ⟨fun o ho => ?_, List.pairwise_cons.2 ⟨fun o ho => (h.1 o ho).1, h.2⟩⟩
    rcases List.mem_cons.1 ho with rfl | ho
    · show t < t + 1 + pickI a.a0 40 ∧ t + 1 + pickI a.a0 40 ≤ _ ∧ 1 ≤ 1 + pickI a.a1 6 ∧ 1 + pickI a.a1 6 ≤ 6; omega
    · have := h.1 o ho; omega
theorem okOa_of {os : List GOpening} (h1 : ∀ o ∈ os, 0 ≤ o.At ∧ o.At ≤ 9999999 ∧ 1 ≤ o.Count ∧ o.Count ≤ 20) (h2 : SrtO os) {j : Int} (h0 : 0 ≤ j) (hj : j < os.length) : okOa os j = true := by
  have a := h1 _ (mem_nth h0 hj)
  unfold okOa okOp
  simp only [Bool.and_eq_true, decide_eq_true_eq]
  refine ⟨by omega, ?_⟩
  unfold prevO; split
  · omega
  · obtain ⟨hi1, hi2⟩ := List.getElem?_eq_some_iff.1 (nth_get (l := os) (i := j - 1) (by omega) (by omega))
    obtain ⟨hj1, hj2⟩ := List.getElem?_eq_some_iff.1 (nth_get (l := os) (i := j) h0 hj)
    have := List.pairwise_iff_getElem.1 h2 (j - 1).toNat j.toNat hi1 hj1 (by omega)
    rw [hi2, hj2] at this; exact this
theorem opsL_rng (xs : List GArr2Int) : ∀ o ∈ opsL xs, 0 ≤ o.At ∧ o.At ≤ 640 ∧ 1 ≤ o.Count ∧ o.Count ≤ 6 := fun o ho => by
  have := (opG_ok (l := xs.take 16) (t := -1)).1 o ho
  have hl : (xs.take 16).length ≤ 16 := by rw [List.length_take]; omega
  omega
theorem opsL_srt (xs : List GArr2Int) : SrtO (opsL xs) := (opG_ok (l := xs.take 16) (t := -1)).2
theorem opsL_len (xs : List GArr2Int) : (opsL xs).length ≤ 16 := by unfold opsL; rw [opG_len, List.length_take]; omega
theorem valid_of {ds : List GDebt} {os : List GOpening} {now : Int} (h1 : ds.length ≤ 20) (h2 : os.length ≤ 40) (h3 : 0 ≤ now ∧ now ≤ 9999999) (h4 : ∀ j : Int, 0 ≤ j → j < ds.length → okDa ds j = true) (h5 : ∀ o ∈ os, 0 ≤ o.At ∧ o.At ≤ 9999999 ∧ 1 ≤ o.Count ∧ o.Count ≤ 20) (h6 : SrtO os) : validI ds os now = true := by
  unfold validI
  rw [allI_of h4, allI_of fun j a b => okOa_of h5 h6 a b, decide_eq_true ⟨h1, h2, h3⟩]; rfl
theorem made_valid (xs : List GArr3Int) (zs : List GArr2Int) {now : Int} (h : 0 ≤ now ∧ now ≤ 9999999) : validI (debtsL xs) (opsL zs) now = true :=
  valid_of (by have := debtsL_len xs; omega) (by have := opsL_len zs; omega) h (fun j a b => debtsL_ok xs a b) (fun o ho => by have := opsL_rng zs o ho; omega) (opsL_srt zs)
end Go.Proofs.YtgdmaadikcnagaaDoor
/- Plan makes good for all debts exactly if Lack finds nothing; Check accepts such a plan; what Lack finds is a deadline before which there is not enough room. -/
namespace Go.Proofs.YtgdmaadikcnagaaDoor
open Go Go.Gx Go.RowKit
set_option linter.unusedVariables false
set_option linter.unusedSimpArgs false

/-- What a plan of valid debts is. -/
theorem planR_ok {ds l : List GDebt} {os : List GOpening} {now : Int} {out : List GServing} (hv : validI ds os now = true) (hl : StD ds l) (ho : out = (planF now os l).1) : PlanOk now ds os out := by
  rw [ho]; exact planOk (validI_ins hv) hl.perm hl.srt
theorem debts_cnt {ds : List GDebt} {os : List GOpening} {now : Int} (hv : validI ds os now = true) : ∀ d ∈ ds, 1 ≤ d.Count ∧ d.Count ≤ 50 ∧ 0 ≤ d.Due ∧ d.Due ≤ 10000000 ∧ 0 ≤ d.ID ∧ d.ID ≤ 199 := fun d hd => by
  obtain ⟨b1, b2, b3, b4, b5, b6⟩ := validI_ok hv
  obtain ⟨j, a, b, rfl⟩ := mem_drop (l := ds) (i := 0) (by omega) (by simpa using hd)
  have := (okDa_iff (b5 j a b)).1 rfl
  have := okD_high a fun k p q => b5 k p (by omega)
  omega
end Go.Proofs.YtgdmaadikcnagaaDoor
/- With a further opening, or more room at one, Plan serves at least as much in all; and so it does with a later due of a debt. -/
namespace Go.Proofs.YtgdmaadikcnagaaDoor
open Go Go.Gx Go.RowKit
set_option linter.unusedVariables false
set_option linter.unusedSimpArgs false

/-- The servings of a plan are told by their counts. -/
theorem good_cnt {now : Int} {due left room : Int → Int} : ∀ {l : List GServing} {left room : Int → Int}, goodB now due left room l = true → (∀ k, left k ≤ 50) → ∀ s ∈ l, 1 ≤ s.Count ∧ s.Count ≤ 50
  | [], _, _, _, _, s, hs => by cases hs
  | a :: r, left, room, h, hl, s, hs => by
    simp only [goodB, okSv, Bool.and_eq_true, decide_eq_true_eq] at h
    obtain ⟨⟨g1, g2, g3, g4, g5⟩, h⟩ := h
    rcases List.mem_cons.1 hs with rfl | hs
    · have := hl s.Debt; omega
    · refine good_cnt (due := due) (left := left) (room := room) h (fun k => ?_) s hs
      have := hl k
      unfold upd1; split <;> omega
theorem cnF_le {ds : List GDebt} (h : ∀ d ∈ ds, d.Count ≤ 50) : ∀ k, cnF ds k ≤ 50 := fun k => by
  induction ds with
  | nil => simp [cnF]
  | cons a r ih =>
    unfold cnF; split
    · exact h a (List.mem_cons_self ..)
    · exact ih fun d hd => h d (List.mem_cons_of_mem _ hd)
theorem plan_cnt {ds : List GDebt} {os : List GOpening} {now : Int} {a : List GServing} (hv : validI ds os now = true) (ha : PlanOk now ds os a) : ∀ s ∈ a, 0 ≤ s.Count ∧ s.Count ≤ 1000000 := fun s hs => by
  have := good_cnt (left := cnF ds) (room := rmF os) ha.good (cnF_le fun d hd => (debts_cnt hv d hd).2.1) s hs
  omega
end Go.Proofs.YtgdmaadikcnagaaDoor
/- Good: servings that make good for some of valid debts. -/
namespace Go.Proofs.YtgdmaadikcnagaaDoor
open Go Go.Gx Go.RowKit
set_option linter.unusedVariables false
set_option linter.unusedSimpArgs false

theorem fill_put {α : Type} [Inhabited α] {l : List α} {f : α → Int} {i : Int} (h0 : 0 ≤ i) (hi : i < l.length) : ((l.take i.toNat).map f ++ List.replicate (l.length - i.toNat) 0).set i.toNat (f (nth l i)) = (l.take (i + 1).toNat).map f ++ List.replicate (l.length - (i + 1).toNat) 0 := by
  have hl : ((l.take i.toNat).map f).length = i.toNat := by rw [List.length_map, List.length_take]; omega
  rw [List.set_append_right _ _ (by omega), hl, Nat.sub_self, show l.length - i.toNat = (l.length - (i + 1).toNat) + 1 by omega, List.replicate_succ, List.set_cons_zero, take_snoc h0 hi, List.map_append, List.append_assoc]
  rfl
theorem map_upd {α : Type} [Inhabited α] {l : List α} {key : α → Int} {f : Int → Int} {i n : Int} (hn : (l.map key).Nodup) (h0 : 0 ≤ i) (hi : i < l.length) : (l.map fun x => f (key x)).set i.toNat (f (key (nth l i)) - n) = l.map fun x => upd1 f (key (nth l i)) n (key x) := by
  apply List.ext_getElem?
  intro j
  rw [List.getElem?_set, List.getElem?_map]
  have hg := nth_get h0 hi
  obtain ⟨hi1, hi2⟩ := List.getElem?_eq_some_iff.1 hg
  by_cases e : i.toNat = j
  · subst e
    rw [if_pos rfl, List.getElem?_map, hg]
    have hlt : i.toNat < (l.map fun x => f (key x)).length := by rw [List.length_map]; exact hi1
    rw [if_pos hlt]
    simp only [Option.map_some, Option.some.injEq]
    unfold upd1; rw [if_pos rfl]
  · rw [if_neg e, List.getElem?_map]
    by_cases hj : j < l.length
    · rw [List.getElem?_eq_getElem hj]
      simp only [Option.map_some, Option.some.injEq]
      unfold upd1
      rw [if_neg]
      intro h
      have hp := List.pairwise_iff_getElem.1 hn
      rcases Nat.lt_or_ge i.toNat j with h1 | h1
      · have := hp i.toNat j (by rw [List.length_map]; exact hi1) (by rw [List.length_map]; exact hj) h1
        rw [List.getElem_map, List.getElem_map, hi2] at this
        exact this h.symm
      · have := hp j i.toNat (by rw [List.length_map]; exact hj) (by rw [List.length_map]; exact hi1) (by omega)
        rw [List.getElem_map, List.getElem_map, hi2] at this
        exact this h
    · rw [List.getElem?_eq_none (by omega)]; rfl
theorem nth_map2 {α : Type} [Inhabited α] {l : List α} {f : α → Int} {i : Int} (h0 : 0 ≤ i) (hi : i < l.length) : nth (l.map f) i = f (nth l i) := by
  have h := nth_get (l := l.map f) (i := i) h0 (by rw [List.length_map]; exact hi)
  rw [List.getElem?_map, nth_get h0 hi] at h
  exact (Option.some.inj h).symm
/-- An index that was looked for. -/
def Fnd {α : Type} [Inhabited α] (l : List α) (key : α → Int) (x : Int) (k d : Int) : Prop := (d = -1 ∧ ∀ j : Int, 0 ≤ j → j < k → key (nth l j) ≠ x) ∨ (0 ≤ d ∧ d < k ∧ key (nth l d) = x)
theorem Fnd.rng {α : Type} [Inhabited α] {l : List α} {key : α → Int} {x k d : Int} (h : Fnd l key x k d) (hk : k ≤ l.length) : -1 ≤ d ∧ d < l.length ∨ (d = -1) := by
  rcases h with ⟨h, _⟩ | ⟨h1, h2, _⟩
  · exact .inr h
  · exact .inl (by omega)
theorem Fnd.hit {α : Type} [Inhabited α] {l : List α} {key : α → Int} {x k d : Int} (h0 : 0 ≤ k) (h : key (nth l k) = x) : Fnd l key x (k + 1) k := .inr ⟨h0, by omega, h⟩
theorem Fnd.miss {α : Type} [Inhabited α] {l : List α} {key : α → Int} {x k d : Int} (h : Fnd l key x k d) (hne : key (nth l k) ≠ x) : Fnd l key x (k + 1) d := by
  rcases h with ⟨h, h'⟩ | ⟨h1, h2, h3⟩
  · refine .inl ⟨h, fun j a b => ?_⟩
    by_cases e : j = k
    · subst e; exact hne
    · exact h' j a (by omega)
  · exact .inr ⟨h1, by omega, h3⟩
set_option maxHeartbeats 4000000 in
theorem good_spec14 {ds : List GDebt} {os : List GOpening} {now : Int} {l : List GServing} {v1 v2 v3 : Value} {w0 : World} (hins : InsOk ds os) (hdc : ∀ d ∈ ds, d.Count ≤ 50) (hoc : ∀ o ∈ os, o.Count ≤ 20) (hr1 : Rd fGDebt.ty w0 v1 ds) (hr2 : Rd fGOpening.ty w0 v2 os) (hr3 : Rd fGServing.ty w0 v3 l) (hl1 : ds.length ≤ 1000000) (hl2 : os.length ≤ 1000000) (hl3 : l.length ≤ 1000000000) :
    CallsV Tryd.prog 20 #[v1, v2, .int .i64 now, v3] w0 (.bool (goodB now (duF ds) (cnF ds) (rmF os) l)) := by
  have S := St.start w0
  obtain ⟨A1, c1, rfl⟩ := hr1.len
  obtain ⟨A2, c2, rfl⟩ := hr2.len
  obtain ⟨A3, c3, rfl⟩ := hr3.len
  refine CallsV.mk ?_
  refine calls_enter Tryd.func20 rfl (by intro _ h; first | exact nomatch h.1 | (obtain ⟨_, h, _⟩ := h; exact nomatch h)) Tryd.ntmps20 rfl ?_
  repeat' (first | refine WP_seq ?_ | refine WP_region ?_ | refine wl_nil ?_ | refine then_normal ?_ | (refine g_move ?_; refine st_move rfl ?_) | (refine g_assign ?_; refine st_assign rfl ?_) | (refine g_c_len ?_; refine st_val rfl (r_lenSlice rfl) ?_))
  refine st_valE rfl (r_makeF (D := fInt .i64) (m := ds.length) 0 S rfl rfl rfl (by decide) (by omega) (by omega)) ?_
  rintro vl w ⟨b, hvl, -, S'⟩; replace S := S'; clear S'
  repeat' (first | refine WP_seq ?_ | refine WP_region ?_ | refine wl_nil ?_ | refine then_normal ?_ | refine WP_block ?_ | (refine g_assign ?_; refine st_assign rfl ?_))
  refine WP_loop (fun k σ w1 => ∃ (i : Int), Has σ [(0, .slice A1 ds.length c1), (1, .slice A2 os.length c2), (2, .int .i64 now), (3, .slice A3 l.length c3), (9, vl), (10, .int .i64 i)] ∧ St w0 w1 [rowOb (fInt .i64) 3 vl ((ds.take i.toNat).map (fun d : GDebt => d.Count) ++ List.replicate (ds.length - i.toNat) 0)] ∧ 0 ≤ i ∧ i ≤ ds.length ∧ k = ds.length - i.toNat) ds.length ⟨0, ⟨rfl, rfl, rfl, rfl, rfl, rfl, trivial⟩, by rw [show Int.toNat 0 = 0 from rfl, List.take_zero, List.map_nil, List.nil_append, Nat.sub_zero]; exact S, by omega, by omega, by omega⟩ ?_
  clear S
  rintro k σ w1 ⟨i, hs, S, hi0, hi1, rfl⟩
  refine WP_has hs ?_
  by_cases hi : i < ds.length
  · have hpl : ((ds.take i.toNat).map (fun d : GDebt => d.Count) ++ List.replicate (ds.length - i.toNat) 0).length = ds.length := by rw [List.length_append, List.length_map, List.length_take, List.length_replicate]; omega
    have hput := fill_put (f := fun d : GDebt => d.Count) hi0 hi
    repeat' (first | refine WP_seq ?_ | refine WP_region ?_ | refine wl_nil ?_ | refine then_normal ?_ | refine WP_skip ?_ | refine WP_block ?_ | (refine g_move ?_; refine st_move rfl ?_) | (refine g_b_lss ?_; refine st_val rfl (r_lss rfl rfl) ?_) | (refine g_c_len ?_; refine st_val rfl (r_lenSlice rfl) ?_) | (refine g_fieldAddr ?_; refine st_val rfl (r_fieldAddr rfl) ?_) | (refine g_indexAddr ?_; first | (refine st_val rfl (r_indexAddr (hr1.mono S.below) rfl rfl ?_ ?_) ?_; (first | omega | (simp <;> omega)); (first | omega | (simp <;> omega))) | (refine st_val rfl (r_indexAddr (S.rdRow (D := (fInt .i64)) (i := 0) rfl) rfl rfl ?_ ?_) ?_; (first | omega | (simp <;> omega)); (first | omega | (simp <;> omega)))) | (refine g_load ?_; (refine st_val rfl (r_loadElemF (hr1.mono S.below) rfl ?_ ?_ rfl) ?_; (first | omega | (simp <;> omega)); (first | omega | (simp <;> omega)))) | (refine WP_cond rfl (fun h => ?_) (fun h => ?_) <;> (fail_if_success (have hh : true = true := h)) <;> (fail_if_success (have hh : false = false := h)) <;> (try simp only [decide_eq_true_eq, decide_eq_false_iff_not, Bool.not_eq_true', Bool.not_eq_false', Int.not_lt, Int.not_le] at h) <;> (try (exfalso; omega))))
    refine st_skipE rfl (r_storeElem (i := 0) (D := fInt .i64) S rfl rfl rfl rfl (fun c hc => by cases List.mem_singleton.1 hc; rfl) (by omega) (by omega)) ?_
    intro w S'; replace S := S'; clear S'
    repeat' (first | refine WP_region ?_ | refine wl_nil ?_ | refine then_normal ?_ | refine inB_normal ?_ | (refine g_move ?_; refine st_move rfl ?_) | (refine g_assign ?_; refine st_assign rfl ?_) | (refine g_b_add ?_; (refine st_val rfl (r_addN rfl rfl ?_ ?_) ?_; (first | omega | (simp <;> omega)); (first | omega | (simp <;> omega)))))
    refine ⟨⟨_, ?_, i + 1, ⟨rfl, rfl, rfl, rfl, rfl, rfl, trivial⟩, by rw [← hput]; exact S, by omega, by omega, rfl⟩⟩
    omega
  have hA1 := accD hins.ids hins.pos
  have hA2 := accO hins.srtO.nodup hins.posO
  have hbd := cnF_le hdc
  have hbo : ∀ k, rmF os k ≤ 20 := fun k => by
    by_cases hk : k ∈ atsO os
    · obtain ⟨d, hd, rfl⟩ := List.mem_map.1 hk
      rw [rmF_in hins.srtO.nodup hd]; exact hoc d hd
    · rw [rmF_out hk]; omega
  have hil : i.toNat = ds.length := by omega
  have hleft : ds.map (fun d => d.Count) = ds.map fun d => cnF ds d.ID := List.map_congr_left fun d hd => (cnF_in hins.ids hd).1.symm
  rw [hil, List.take_length, Nat.sub_self, List.replicate_zero, List.append_nil, hleft] at S
  repeat' (first | refine WP_seq ?_ | refine WP_region ?_ | refine wl_nil ?_ | refine then_normal ?_ | refine then_exit ?_ | refine inB_here ?_ | refine WP_exit ?_ | (refine g_move ?_; refine st_move rfl ?_) | (refine g_b_lss ?_; refine st_val rfl (r_lss rfl rfl) ?_) | (refine g_c_len ?_; refine st_val rfl (r_lenSlice rfl) ?_) | (refine WP_cond rfl (fun h => ?_) (fun h => ?_) <;> (fail_if_success (have hh : true = true := h)) <;> (fail_if_success (have hh : false = false := h)) <;> (try simp only [decide_eq_true_eq, decide_eq_false_iff_not, Bool.not_eq_true', Bool.not_eq_false', Int.not_lt, Int.not_le] at h) <;> (try (exfalso; omega))))
  refine st_valE rfl (r_makeF (D := fInt .i64) (m := os.length) 0 S rfl rfl rfl (by decide) (by omega) (by omega)) ?_
  rintro vr w ⟨b2, hvr, -, S'⟩; replace S := S'; clear S'
  repeat' (first | refine WP_seq ?_ | refine WP_region ?_ | refine wl_nil ?_ | refine then_normal ?_ | refine WP_block ?_ | (refine g_assign ?_; refine st_assign rfl ?_))
  clear hs
  refine WP_loop (fun k σ w1 => ∃ (i : Int), Has σ [(0, .slice A1 ds.length c1), (1, .slice A2 os.length c2), (2, .int .i64 now), (3, .slice A3 l.length c3), (9, vl), (11, vr), (12, .int .i64 i)] ∧ St w0 w1 [rowOb (fInt .i64) 3 vl (ds.map fun d => cnF ds d.ID), rowOb (fInt .i64) 3 vr ((os.take i.toNat).map (fun d : GOpening => d.Count) ++ List.replicate (os.length - i.toNat) 0)] ∧ 0 ≤ i ∧ i ≤ os.length ∧ k = os.length - i.toNat) os.length ⟨0, ⟨rfl, rfl, rfl, rfl, rfl, rfl, rfl, trivial⟩, by rw [show Int.toNat 0 = 0 from rfl, List.take_zero, List.map_nil, List.nil_append, Nat.sub_zero]; exact S, by omega, by omega, by omega⟩ ?_
  clear S hi0 hi1 hi hil
  rintro k σ w1 ⟨i, hs, S, hi0, hi1, rfl⟩
  refine WP_has hs ?_
  by_cases hi : i < os.length
  · have hpl : ((os.take i.toNat).map (fun d : GOpening => d.Count) ++ List.replicate (os.length - i.toNat) 0).length = os.length := by rw [List.length_append, List.length_map, List.length_take, List.length_replicate]; omega
    have hput := fill_put (f := fun d : GOpening => d.Count) hi0 hi
    repeat' (first | refine WP_seq ?_ | refine WP_region ?_ | refine wl_nil ?_ | refine then_normal ?_ | refine WP_skip ?_ | refine WP_block ?_ | (refine g_move ?_; refine st_move rfl ?_) | (refine g_b_lss ?_; refine st_val rfl (r_lss rfl rfl) ?_) | (refine g_c_len ?_; refine st_val rfl (r_lenSlice rfl) ?_) | (refine g_fieldAddr ?_; refine st_val rfl (r_fieldAddr rfl) ?_) | (refine g_indexAddr ?_; first | (refine st_val rfl (r_indexAddr (hr2.mono S.below) rfl rfl ?_ ?_) ?_; (first | omega | (simp <;> omega)); (first | omega | (simp <;> omega))) | (refine st_val rfl (r_indexAddr (S.rdRow (D := (fInt .i64)) (i := 1) rfl) rfl rfl ?_ ?_) ?_; (first | omega | (simp <;> omega)); (first | omega | (simp <;> omega)))) | (refine g_load ?_; (refine st_val rfl (r_loadElemF (hr2.mono S.below) rfl ?_ ?_ rfl) ?_; (first | omega | (simp <;> omega)); (first | omega | (simp <;> omega)))) | (refine WP_cond rfl (fun h => ?_) (fun h => ?_) <;> (fail_if_success (have hh : true = true := h)) <;> (fail_if_success (have hh : false = false := h)) <;> (try simp only [decide_eq_true_eq, decide_eq_false_iff_not, Bool.not_eq_true', Bool.not_eq_false', Int.not_lt, Int.not_le] at h) <;> (try (exfalso; omega))))
    refine st_skipE rfl (r_storeElem (i := 1) (D := fInt .i64) S rfl rfl rfl rfl (fun c hc => by cases List.mem_singleton.1 hc; rfl) (by omega) (by omega)) ?_
    intro w S'; replace S := S'; clear S'
    repeat' (first | refine WP_region ?_ | refine wl_nil ?_ | refine then_normal ?_ | refine inB_normal ?_ | (refine g_move ?_; refine st_move rfl ?_) | (refine g_assign ?_; refine st_assign rfl ?_) | (refine g_b_add ?_; (refine st_val rfl (r_addN rfl rfl ?_ ?_) ?_; (first | omega | (simp <;> omega)); (first | omega | (simp <;> omega)))))
    refine ⟨⟨_, ?_, i + 1, ⟨rfl, rfl, rfl, rfl, rfl, rfl, rfl, trivial⟩, by rw [← hput]; exact S, by omega, by omega, rfl⟩⟩
    omega
  have hil : i.toNat = os.length := by omega
  have hroom : os.map (fun o => o.Count) = os.map fun o => rmF os o.At := List.map_congr_left fun d hd => (rmF_in hins.srtO.nodup hd).symm
  rw [hil, List.take_length, Nat.sub_self, List.replicate_zero, List.append_nil, hroom] at S
  repeat' (first | refine WP_seq ?_ | refine WP_region ?_ | refine wl_nil ?_ | refine then_normal ?_ | refine then_exit ?_ | refine inB_here ?_ | refine WP_exit ?_ | refine WP_block ?_ | (refine g_move ?_; refine st_move rfl ?_) | (refine g_assign ?_; refine st_assign rfl ?_) | (refine g_b_lss ?_; refine st_val rfl (r_lss rfl rfl) ?_) | (refine g_c_len ?_; refine st_val rfl (r_lenSlice rfl) ?_) | (refine WP_cond rfl (fun h => ?_) (fun h => ?_) <;> (fail_if_success (have hh : true = true := h)) <;> (fail_if_success (have hh : false = false := h)) <;> (try simp only [decide_eq_true_eq, decide_eq_false_iff_not, Bool.not_eq_true', Bool.not_eq_false', Int.not_lt, Int.not_le] at h) <;> (try (exfalso; omega))))
  clear hs
  refine WP_loop (fun k σ w1 => ∃ (i : Int) (left room : Int → Int), Has σ [(0, .slice A1 ds.length c1), (1, .slice A2 os.length c2), (2, .int .i64 now), (3, .slice A3 l.length c3), (9, vl), (11, vr), (13, .int .i64 i)] ∧ St w0 w1 [rowOb (fInt .i64) 3 vl (ds.map fun d => left d.ID), rowOb (fInt .i64) 3 vr (os.map fun o => room o.At)] ∧ AccS left (idsD ds) ∧ AccS room (atsO os) ∧ (∀ k, left k ≤ 50) ∧ (∀ k, room k ≤ 20) ∧
    goodB now (duF ds) (cnF ds) (rmF os) l = goodB now (duF ds) left room (l.drop i.toNat) ∧ 0 ≤ i ∧ i ≤ l.length ∧ k = l.length - i.toNat) l.length ⟨0, _, _, ⟨rfl, rfl, rfl, rfl, rfl, rfl, rfl, trivial⟩, S, hA1, hA2, hbd, hbo, by simp, by omega, by omega, by omega⟩ ?_
  clear S hi0 hi1 hi hil hA1 hA2 hbd hbo
  rintro k σ w1 ⟨i, left, room, hs, S, hA1, hA2, hbd, hbo, hg, hi0, hi1, rfl⟩
  refine WP_has hs ?_
  by_cases hi : i < l.length
  · rw [drop_nth hi0 hi] at hg
    repeat' (first | refine WP_seq ?_ | refine WP_region ?_ | refine wl_nil ?_ | refine then_normal ?_ | refine WP_skip ?_ | refine WP_block ?_ | (refine g_move ?_; refine st_move rfl ?_) | (refine g_assign ?_; refine st_assign rfl ?_) | (refine g_b_lss ?_; refine st_val rfl (r_lss rfl rfl) ?_) | (refine g_c_len ?_; refine st_val rfl (r_lenSlice rfl) ?_) | (refine WP_cond rfl (fun h => ?_) (fun h => ?_) <;> (fail_if_success (have hh : true = true := h)) <;> (fail_if_success (have hh : false = false := h)) <;> (try simp only [decide_eq_true_eq, decide_eq_false_iff_not, Bool.not_eq_true', Bool.not_eq_false', Int.not_lt, Int.not_le] at h) <;> (try (exfalso; omega))))
    refine WP_loop (fun m σ w1 => ∃ (k d : Int), Has σ [(0, .slice A1 ds.length c1), (1, .slice A2 os.length c2), (2, .int .i64 now), (3, .slice A3 l.length c3), (9, vl), (11, vr), (13, .int .i64 i), (14, .int .i64 d), (15, .int .i64 k)] ∧ St w0 w1 [rowOb (fInt .i64) 3 vl (ds.map fun d => left d.ID), rowOb (fInt .i64) 3 vr (os.map fun o => room o.At)] ∧ Fnd ds (·.ID) (nth l i).Debt k d ∧ 0 ≤ k ∧ k ≤ ds.length ∧ m = ds.length - k.toNat) ds.length ⟨0, -1, ⟨rfl, rfl, rfl, rfl, rfl, rfl, rfl, rfl, rfl, trivial⟩, S, .inl ⟨rfl, fun j a b => by omega⟩, by omega, by omega, by omega⟩ ?_
    clear S hs
    rintro m σ w1 ⟨k, d, hs, S, hd, hk0, hk1, rfl⟩
    refine WP_has hs ?_
    by_cases hk : k < ds.length
    · by_cases he : (nth ds k).ID = (nth l i).Debt
      · repeat' (first | refine WP_seq ?_ | refine WP_region ?_ | refine wl_nil ?_ | refine then_normal ?_ | refine inB_normal ?_ | refine WP_skip ?_ | refine WP_block ?_ | refine WP_draw (by kernel_rfl) (by kernel_rfl) ?_ | (refine ql_nil ?_; intro w hb; replace S := S.grow hb; clear hb) | (refine g_move ?_; refine st_move rfl ?_) | (refine g_assign ?_; refine st_assign rfl ?_) | (refine g_b_add ?_; (refine st_val rfl (r_addN rfl rfl ?_ ?_) ?_; (first | omega | (simp <;> omega)); (first | omega | (simp <;> omega)))) | (refine g_b_lss ?_; refine st_val rfl (r_lss rfl rfl) ?_) | (refine g_c_len ?_; refine st_val rfl (r_lenSlice rfl) ?_) | (refine gq_move ?_; refine q_move rfl ?_) | (refine gq_b_eql ?_; refine q_val rfl (fun w' hb => r_eql rfl rfl) ?_) | (refine gq_fieldAddr ?_; refine q_val rfl (fun w' hb => r_fieldAddr rfl) ?_) | (refine gq_indexAddr ?_; first | (refine q_val rfl (fun w' hb => r_indexAddr (hr1.mono (S.grow hb).below) rfl rfl ?_ ?_) ?_; (first | omega | (simp <;> omega)); (first | omega | (simp <;> omega))) | (refine q_val rfl (fun w' hb => r_indexAddr (hr3.mono (S.grow hb).below) rfl rfl ?_ ?_) ?_; (first | omega | (simp <;> omega)); (first | omega | (simp <;> omega)))) | (refine gq_load ?_; first | (refine q_val rfl (fun w' hb => r_loadElem1 (hr1.mono (S.grow hb).below) rfl ?_ ?_ rfl) ?_; (first | omega | (simp <;> omega)); (first | omega | (simp <;> omega))) | (refine q_val rfl (fun w' hb => r_loadElem1 (hr3.mono (S.grow hb).below) rfl ?_ ?_ rfl) ?_; (first | omega | (simp <;> omega)); (first | omega | (simp <;> omega)))) | (refine WP_cond rfl (fun h => ?_) (fun h => ?_) <;> (fail_if_success (have hh : true = true := h)) <;> (fail_if_success (have hh : false = false := h)) <;> (try simp only [decide_eq_true_eq, decide_eq_false_iff_not, Bool.not_eq_true', Bool.not_eq_false', Int.not_lt, Int.not_le] at h) <;> (try (exfalso; omega)) <;> (try (exfalso; omega; done))))
        refine ⟨⟨_, ?_, k + 1, k, ⟨rfl, rfl, rfl, rfl, rfl, rfl, rfl, rfl, rfl, trivial⟩, S, Fnd.hit (d := d) hk0 he, by omega, by omega, rfl⟩⟩
        omega
      · repeat' (first | refine WP_seq ?_ | refine WP_region ?_ | refine wl_nil ?_ | refine then_normal ?_ | refine inB_normal ?_ | refine WP_skip ?_ | refine WP_block ?_ | refine WP_draw (by kernel_rfl) (by kernel_rfl) ?_ | (refine ql_nil ?_; intro w hb; replace S := S.grow hb; clear hb) | (refine g_move ?_; refine st_move rfl ?_) | (refine g_assign ?_; refine st_assign rfl ?_) | (refine g_b_add ?_; (refine st_val rfl (r_addN rfl rfl ?_ ?_) ?_; (first | omega | (simp <;> omega)); (first | omega | (simp <;> omega)))) | (refine g_b_lss ?_; refine st_val rfl (r_lss rfl rfl) ?_) | (refine g_c_len ?_; refine st_val rfl (r_lenSlice rfl) ?_) | (refine gq_move ?_; refine q_move rfl ?_) | (refine gq_b_eql ?_; refine q_val rfl (fun w' hb => r_eql rfl rfl) ?_) | (refine gq_fieldAddr ?_; refine q_val rfl (fun w' hb => r_fieldAddr rfl) ?_) | (refine gq_indexAddr ?_; first | (refine q_val rfl (fun w' hb => r_indexAddr (hr1.mono (S.grow hb).below) rfl rfl ?_ ?_) ?_; (first | omega | (simp <;> omega)); (first | omega | (simp <;> omega))) | (refine q_val rfl (fun w' hb => r_indexAddr (hr3.mono (S.grow hb).below) rfl rfl ?_ ?_) ?_; (first | omega | (simp <;> omega)); (first | omega | (simp <;> omega)))) | (refine gq_load ?_; first | (refine q_val rfl (fun w' hb => r_loadElem1 (hr1.mono (S.grow hb).below) rfl ?_ ?_ rfl) ?_; (first | omega | (simp <;> omega)); (first | omega | (simp <;> omega))) | (refine q_val rfl (fun w' hb => r_loadElem1 (hr3.mono (S.grow hb).below) rfl ?_ ?_ rfl) ?_; (first | omega | (simp <;> omega)); (first | omega | (simp <;> omega)))) | (refine WP_cond rfl (fun h => ?_) (fun h => ?_) <;> (fail_if_success (have hh : true = true := h)) <;> (fail_if_success (have hh : false = false := h)) <;> (try simp only [decide_eq_true_eq, decide_eq_false_iff_not, Bool.not_eq_true', Bool.not_eq_false', Int.not_lt, Int.not_le] at h) <;> (try (exfalso; omega)) <;> (try (exfalso; omega; done))))
        refine ⟨⟨_, ?_, k + 1, d, ⟨rfl, rfl, rfl, rfl, rfl, rfl, rfl, rfl, rfl, trivial⟩, S, hd.miss he, by omega, by omega, rfl⟩⟩
        omega
    rw [show k = ds.length by omega] at hd
    repeat' (first | refine WP_seq ?_ | refine WP_region ?_ | refine wl_nil ?_ | refine then_normal ?_ | refine then_exit ?_ | refine inB_here ?_ | refine WP_exit ?_ | refine WP_block ?_ | (refine g_move ?_; refine st_move rfl ?_) | (refine g_assign ?_; refine st_assign rfl ?_) | (refine g_b_lss ?_; refine st_val rfl (r_lss rfl rfl) ?_) | (refine g_c_len ?_; refine st_val rfl (r_lenSlice rfl) ?_) | (refine WP_cond rfl (fun h => ?_) (fun h => ?_) <;> (fail_if_success (have hh : true = true := h)) <;> (fail_if_success (have hh : false = false := h)) <;> (try simp only [decide_eq_true_eq, decide_eq_false_iff_not, Bool.not_eq_true', Bool.not_eq_false', Int.not_lt, Int.not_le] at h) <;> (try (exfalso; omega))))
    refine WP_loop (fun m σ w1 => ∃ (k o : Int), Has σ [(0, .slice A1 ds.length c1), (1, .slice A2 os.length c2), (2, .int .i64 now), (3, .slice A3 l.length c3), (9, vl), (11, vr), (13, .int .i64 i), (14, .int .i64 d), (16, .int .i64 o), (17, .int .i64 k)] ∧ St w0 w1 [rowOb (fInt .i64) 3 vl (ds.map fun d => left d.ID), rowOb (fInt .i64) 3 vr (os.map fun o => room o.At)] ∧ Fnd os (·.At) (nth l i).At k o ∧ 0 ≤ k ∧ k ≤ os.length ∧ m = os.length - k.toNat) os.length ⟨0, -1, ⟨rfl, rfl, rfl, rfl, rfl, rfl, rfl, rfl, rfl, rfl, trivial⟩, S, .inl ⟨rfl, fun j a b => by omega⟩, by omega, by omega, by omega⟩ ?_
    clear S hs hk hk0 hk1
    rintro m σ w1 ⟨k, o, hs, S, ho, hk0, hk1, rfl⟩
    refine WP_has hs ?_
    by_cases hk : k < os.length
    · by_cases he : (nth os k).At = (nth l i).At
      · repeat' (first | refine WP_seq ?_ | refine WP_region ?_ | refine wl_nil ?_ | refine then_normal ?_ | refine inB_normal ?_ | refine WP_skip ?_ | refine WP_block ?_ | refine WP_draw (by kernel_rfl) (by kernel_rfl) ?_ | (refine ql_nil ?_; intro w hb; replace S := S.grow hb; clear hb) | (refine g_move ?_; refine st_move rfl ?_) | (refine g_assign ?_; refine st_assign rfl ?_) | (refine g_b_add ?_; (refine st_val rfl (r_addN rfl rfl ?_ ?_) ?_; (first | omega | (simp <;> omega)); (first | omega | (simp <;> omega)))) | (refine g_b_lss ?_; refine st_val rfl (r_lss rfl rfl) ?_) | (refine g_c_len ?_; refine st_val rfl (r_lenSlice rfl) ?_) | (refine gq_move ?_; refine q_move rfl ?_) | (refine gq_b_eql ?_; refine q_val rfl (fun w' hb => r_eql rfl rfl) ?_) | (refine gq_fieldAddr ?_; refine q_val rfl (fun w' hb => r_fieldAddr rfl) ?_) | (refine gq_indexAddr ?_; first | (refine q_val rfl (fun w' hb => r_indexAddr (hr2.mono (S.grow hb).below) rfl rfl ?_ ?_) ?_; (first | omega | (simp <;> omega)); (first | omega | (simp <;> omega))) | (refine q_val rfl (fun w' hb => r_indexAddr (hr3.mono (S.grow hb).below) rfl rfl ?_ ?_) ?_; (first | omega | (simp <;> omega)); (first | omega | (simp <;> omega)))) | (refine gq_load ?_; first | (refine q_val rfl (fun w' hb => r_loadElem1 (hr2.mono (S.grow hb).below) rfl ?_ ?_ rfl) ?_; (first | omega | (simp <;> omega)); (first | omega | (simp <;> omega))) | (refine q_val rfl (fun w' hb => r_loadElemF (hr3.mono (S.grow hb).below) rfl ?_ ?_ rfl) ?_; (first | omega | (simp <;> omega)); (first | omega | (simp <;> omega)))) | (refine WP_cond rfl (fun h => ?_) (fun h => ?_) <;> (fail_if_success (have hh : true = true := h)) <;> (fail_if_success (have hh : false = false := h)) <;> (try simp only [decide_eq_true_eq, decide_eq_false_iff_not, Bool.not_eq_true', Bool.not_eq_false', Int.not_lt, Int.not_le] at h) <;> (try (exfalso; omega)) <;> (try (exfalso; omega; done))))
        refine ⟨⟨_, ?_, k + 1, k, ⟨rfl, rfl, rfl, rfl, rfl, rfl, rfl, rfl, rfl, rfl, trivial⟩, S, Fnd.hit (d := o) hk0 he, by omega, by omega, rfl⟩⟩
        omega
      · repeat' (first | refine WP_seq ?_ | refine WP_region ?_ | refine wl_nil ?_ | refine then_normal ?_ | refine inB_normal ?_ | refine WP_skip ?_ | refine WP_block ?_ | refine WP_draw (by kernel_rfl) (by kernel_rfl) ?_ | (refine ql_nil ?_; intro w hb; replace S := S.grow hb; clear hb) | (refine g_move ?_; refine st_move rfl ?_) | (refine g_assign ?_; refine st_assign rfl ?_) | (refine g_b_add ?_; (refine st_val rfl (r_addN rfl rfl ?_ ?_) ?_; (first | omega | (simp <;> omega)); (first | omega | (simp <;> omega)))) | (refine g_b_lss ?_; refine st_val rfl (r_lss rfl rfl) ?_) | (refine g_c_len ?_; refine st_val rfl (r_lenSlice rfl) ?_) | (refine gq_move ?_; refine q_move rfl ?_) | (refine gq_b_eql ?_; refine q_val rfl (fun w' hb => r_eql rfl rfl) ?_) | (refine gq_fieldAddr ?_; refine q_val rfl (fun w' hb => r_fieldAddr rfl) ?_) | (refine gq_indexAddr ?_; first | (refine q_val rfl (fun w' hb => r_indexAddr (hr2.mono (S.grow hb).below) rfl rfl ?_ ?_) ?_; (first | omega | (simp <;> omega)); (first | omega | (simp <;> omega))) | (refine q_val rfl (fun w' hb => r_indexAddr (hr3.mono (S.grow hb).below) rfl rfl ?_ ?_) ?_; (first | omega | (simp <;> omega)); (first | omega | (simp <;> omega)))) | (refine gq_load ?_; first | (refine q_val rfl (fun w' hb => r_loadElem1 (hr2.mono (S.grow hb).below) rfl ?_ ?_ rfl) ?_; (first | omega | (simp <;> omega)); (first | omega | (simp <;> omega))) | (refine q_val rfl (fun w' hb => r_loadElemF (hr3.mono (S.grow hb).below) rfl ?_ ?_ rfl) ?_; (first | omega | (simp <;> omega)); (first | omega | (simp <;> omega)))) | (refine WP_cond rfl (fun h => ?_) (fun h => ?_) <;> (fail_if_success (have hh : true = true := h)) <;> (fail_if_success (have hh : false = false := h)) <;> (try simp only [decide_eq_true_eq, decide_eq_false_iff_not, Bool.not_eq_true', Bool.not_eq_false', Int.not_lt, Int.not_le] at h) <;> (try (exfalso; omega)) <;> (try (exfalso; omega; done))))
        refine ⟨⟨_, ?_, k + 1, o, ⟨rfl, rfl, rfl, rfl, rfl, rfl, rfl, rfl, rfl, rfl, trivial⟩, S, ho.miss he, by omega, by omega, rfl⟩⟩
        omega
    rw [show k = os.length by omega] at ho
    clear hk0 hs
    have hgs : goodB now (duF ds) left room (nth l i :: l.drop (i + 1).toNat) = (okSv now (duF ds) left room (nth l i) && goodB now (duF ds) (upd1 left (nth l i).Debt (nth l i).Count) (upd1 room (nth l i).At (nth l i).Count) (l.drop (i + 1).toNat)) := rfl
    have hlm : (ds.map fun d => left d.ID).length = ds.length := List.length_map ..
    have hrm : (os.map fun o => room o.At).length = os.length := List.length_map ..
    have hdout : d = -1 → left (nth l i).Debt ≤ 0 := fun e => by
      rcases hd with ⟨_, h⟩ | ⟨h, _⟩
      · by_cases hc : 1 ≤ left (nth l i).Debt
        · exfalso
          obtain ⟨x, hx, hx'⟩ := List.mem_map.1 (hA1.out _ hc)
          obtain ⟨j, a, b, rfl⟩ := mem_drop (l := ds) (i := 0) (by omega) (by simpa using hx)
          exact h j a b hx'
        · omega
      · omega
    have hoout : o = -1 → room (nth l i).At ≤ 0 := fun e => by
      rcases ho with ⟨_, h⟩ | ⟨h, _⟩
      · by_cases hc : 1 ≤ room (nth l i).At
        · exfalso
          obtain ⟨x, hx, hx'⟩ := List.mem_map.1 (hA2.out _ hc)
          obtain ⟨j, a, b, rfl⟩ := mem_drop (l := os) (i := 0) (by omega) (by simpa using hx)
          exact h j a b hx'
        · omega
      · omega
    have hdin : d = -1 ∨ (0 ≤ d ∧ d < ds.length ∧ (nth ds d).ID = (nth l i).Debt) := by
      rcases hd with ⟨h, _⟩ | ⟨h1, h2, h3⟩
      · exact .inl h
      · exact .inr ⟨h1, h2, h3⟩
    have hoin : o = -1 ∨ (0 ≤ o ∧ o < os.length ∧ (nth os o).At = (nth l i).At) := by
      rcases ho with ⟨h, _⟩ | ⟨h1, h2, h3⟩
      · exact .inl h
      · exact .inr ⟨h1, h2, h3⟩
    clear hd ho
    have hb1 := hbd (nth l i).Debt
    have hb2 := hbo (nth l i).At
    cases hok : okSv now (duF ds) left room (nth l i) with
    | false =>
      have hfin : goodB now (duF ds) (cnF ds) (rmF os) l = false := by rw [hg, hgs, hok]; rfl
      have hno := of_decide_eq_false hok
      rw [hfin]
      rcases hdin with rfl | ⟨d0, d1, d2⟩
      · repeat' (first | refine WP_seq ?_ | refine WP_region ?_ | refine wl_nil ?_ | refine then_normal ?_ | refine then_exit ?_ | refine inB_here ?_ | refine then_ret ?_ | refine inB_ret ?_ | refine WP_ret ?_ | refine WP_exit ?_ | refine WP_condT rfl ?_ | (refine g_guard ?_; refine st_off rfl ?_) | (refine g_move ?_; refine st_move rfl ?_) | (refine g_assign ?_; refine st_assign rfl ?_) | (refine g_pick ?_; refine st_pickT rfl rfl ?_) | (refine g_b_lss ?_; refine st_val rfl (r_lss rfl rfl) ?_) | (refine g_c_len ?_; refine st_val rfl (r_lenSlice rfl) ?_) | (refine WP_cond rfl (fun h => ?_) (fun h => ?_) <;> (fail_if_success (have hh : true = true := h)) <;> (fail_if_success (have hh : false = false := h)) <;> (try simp only [decide_eq_true_eq, decide_eq_false_iff_not, Bool.not_eq_true', Bool.not_eq_false', Int.not_lt, Int.not_le] at h) <;> (try (exfalso; omega)) <;> (try (exfalso; omega; done))))
        all_goals exact end1 rfl rfl ⟨rfl, S.below⟩
      rcases hoin with rfl | ⟨o0, o1, o2⟩
      · repeat' (first | refine WP_seq ?_ | refine WP_region ?_ | refine wl_nil ?_ | refine then_normal ?_ | refine then_exit ?_ | refine inB_here ?_ | refine then_ret ?_ | refine inB_ret ?_ | refine WP_ret ?_ | refine WP_exit ?_ | refine WP_condT rfl ?_ | (refine g_guard ?_; refine st_off rfl ?_) | (refine g_move ?_; refine st_move rfl ?_) | (refine g_assign ?_; refine st_assign rfl ?_) | (refine g_pick ?_; first | refine st_pickT rfl rfl ?_ | refine st_pickF rfl rfl ?_) | (refine g_b_lss ?_; refine st_val rfl (r_lss rfl rfl) ?_) | (refine g_c_len ?_; refine st_val rfl (r_lenSlice rfl) ?_) | (refine wl_split rfl rfl (fun h => ?_) (fun h => ?_) <;> (fail_if_success (have hh : true = true := h)) <;> (fail_if_success (have hh : false = false := h)) <;> (try simp only [decide_eq_true_eq, decide_eq_false_iff_not, Bool.not_eq_true', Bool.not_eq_false', Int.not_lt, Int.not_le] at h) <;> (try (exfalso; omega)) <;> (try (exfalso; omega; done))) | (refine WP_cond rfl (fun h => ?_) (fun h => ?_) <;> (fail_if_success (have hh : true = true := h)) <;> (fail_if_success (have hh : false = false := h)) <;> (try simp only [decide_eq_true_eq, decide_eq_false_iff_not, Bool.not_eq_true', Bool.not_eq_false', Int.not_lt, Int.not_le] at h) <;> (try (exfalso; omega)) <;> (try (exfalso; omega; done))))
        all_goals exact end1 rfl rfl ⟨rfl, S.below⟩
      have e1 := nth_map2 (f := fun d : GDebt => left d.ID) d0 d1
      have e2 := nth_map2 (f := fun o : GOpening => room o.At) o0 o1
      have e3 : duF ds (nth l i).Debt = (nth ds d).Due := by rw [← d2]; exact (cnF_in hins.ids (mem_nth d0 d1)).2
      simp only [d2] at e1
      simp only [o2] at e2
      repeat' (first | refine WP_seq ?_ | refine WP_region ?_ | refine wl_nil ?_ | refine then_normal ?_ | refine then_exit ?_ | refine inB_here ?_ | refine then_ret ?_ | refine inB_ret ?_ | refine WP_ret ?_ | refine WP_skip ?_ | refine WP_exit ?_ | refine WP_condT rfl ?_ | refine WP_draw (by kernel_rfl) (by kernel_rfl) ?_ | (refine ql_nil ?_; intro w hb; replace S := S.grow hb; clear hb) | (refine g_guard ?_; refine st_off rfl ?_) | (refine g_move ?_; refine st_move rfl ?_) | (refine g_assign ?_; refine st_assign rfl ?_) | (refine g_pick ?_; first | refine st_pickT rfl rfl ?_ | refine st_pickF rfl rfl ?_) | (refine g_b_lss ?_; refine st_val rfl (r_lss rfl rfl) ?_) | (refine g_c_len ?_; refine st_val rfl (r_lenSlice rfl) ?_) | (refine g_fieldAddr ?_; refine st_val rfl (r_fieldAddr rfl) ?_) | (refine g_indexAddr ?_; (refine st_val rfl (r_indexAddr (hr3.mono S.below) rfl rfl ?_ ?_) ?_; (first | omega | (simp <;> omega)); (first | omega | (simp <;> omega)))) | (refine g_load ?_; (refine st_val rfl (r_loadElemF (hr3.mono S.below) rfl ?_ ?_ rfl) ?_; (first | omega | (simp <;> omega)); (first | omega | (simp <;> omega)))) | (refine gq_guard ?_; refine q_off rfl ?_) | (refine gq_move ?_; refine q_move rfl ?_) | (refine gq_pick ?_; first | refine q_pickT rfl rfl ?_ | refine q_pickF rfl rfl ?_) | (refine gq_b_gtr ?_; refine q_val rfl (fun w' hb => r_gtr rfl rfl) ?_) | (refine gq_b_geq ?_; refine q_val rfl (fun w' hb => r_geq rfl rfl) ?_) | (refine gq_fieldAddr ?_; refine q_val rfl (fun w' hb => r_fieldAddr rfl) ?_) | (refine gq_indexAddr ?_; first | (refine q_val rfl (fun w' hb => r_indexAddr (hr1.mono (S.grow hb).below) rfl rfl ?_ ?_) ?_; (first | omega | (simp <;> omega)); (first | omega | (simp <;> omega))) | (refine q_val rfl (fun w' hb => r_indexAddr (hr3.mono (S.grow hb).below) rfl rfl ?_ ?_) ?_; (first | omega | (simp <;> omega)); (first | omega | (simp <;> omega))) | (refine q_val rfl (fun w' hb => r_indexAddr ((S.grow hb).rdRow (D := (fInt .i64)) (i := 0) rfl) rfl rfl ?_ ?_) ?_; (first | omega | (simp <;> omega)); (first | omega | (simp <;> omega))) | (refine q_val rfl (fun w' hb => r_indexAddr ((S.grow hb).rdRow (D := (fInt .i64)) (i := 1) rfl) rfl rfl ?_ ?_) ?_; (first | omega | (simp <;> omega)); (first | omega | (simp <;> omega)))) | (refine gq_load ?_; first | (refine q_val rfl (fun w' hb => r_loadElemF (hr1.mono (S.grow hb).below) rfl ?_ ?_ rfl) ?_; (first | omega | (simp <;> omega)); (first | omega | (simp <;> omega))) | (refine q_val rfl (fun w' hb => r_loadElemF (hr3.mono (S.grow hb).below) rfl ?_ ?_ rfl) ?_; (first | omega | (simp <;> omega)); (first | omega | (simp <;> omega))) | (refine q_val rfl (fun w' hb => r_loadElem1 ((S.grow hb).rdRow (D := (fInt .i64)) (i := 0) rfl) rfl ?_ ?_ rfl) ?_; (first | omega | (simp <;> omega)); (first | omega | (simp <;> omega))) | (refine q_val rfl (fun w' hb => r_loadElem1 ((S.grow hb).rdRow (D := (fInt .i64)) (i := 1) rfl) rfl ?_ ?_ rfl) ?_; (first | omega | (simp <;> omega)); (first | omega | (simp <;> omega)))) | (refine wl_split rfl rfl (fun h => ?_) (fun h => ?_) <;> (fail_if_success (have hh : true = true := h)) <;> (fail_if_success (have hh : false = false := h)) <;> (try simp only [decide_eq_true_eq, decide_eq_false_iff_not, Bool.not_eq_true', Bool.not_eq_false', Int.not_lt, Int.not_le] at h) <;> (try (exfalso; omega)) <;> (try (exfalso; omega; done))) | (refine ql_split rfl rfl (fun h => ?_) (fun h => ?_) <;> (fail_if_success (have hh : true = true := h)) <;> (fail_if_success (have hh : false = false := h)) <;> (try simp only [decide_eq_true_eq, decide_eq_false_iff_not, Bool.not_eq_true', Bool.not_eq_false', Int.not_lt, Int.not_le] at h) <;> (try (exfalso; omega)) <;> (try (exfalso; omega; done))) | (refine WP_cond rfl (fun h => ?_) (fun h => ?_) <;> (fail_if_success (have hh : true = true := h)) <;> (fail_if_success (have hh : false = false := h)) <;> (try simp only [decide_eq_true_eq, decide_eq_false_iff_not, Bool.not_eq_true', Bool.not_eq_false', Int.not_lt, Int.not_le] at h) <;> (try (exfalso; omega)) <;> (try (exfalso; omega; done))))
      all_goals exact end1 rfl rfl ⟨rfl, S.below⟩
    | true =>
      obtain ⟨g1, g2, g3, g4, g5⟩ := of_decide_eq_true hok
      rw [hgs, hok, Bool.true_and] at hg
      rcases hdin with rfl | ⟨d0, d1, d2⟩
      · have := hdout rfl; omega
      rcases hoin with rfl | ⟨o0, o1, o2⟩
      · have := hoout rfl; omega
      have e1 := nth_map2 (f := fun d : GDebt => left d.ID) d0 d1
      have e2 := nth_map2 (f := fun o : GOpening => room o.At) o0 o1
      have e3 : duF ds (nth l i).Debt = (nth ds d).Due := by rw [← d2]; exact (cnF_in hins.ids (mem_nth d0 d1)).2
      simp only [d2] at e1
      simp only [o2] at e2
      have u1 := map_upd (f := left) (n := (nth l i).Count) hins.ids d0 d1
      have u2 := map_upd (f := room) (n := (nth l i).Count) hins.srtO.nodup o0 o1
      simp only [d2] at u1
      simp only [o2] at u2
      have hA1' := hA1.upd g1 g4
      have hA2' := hA2.upd g1 g5
      have hbd' : ∀ k, upd1 left (nth l i).Debt (nth l i).Count k ≤ 50 := fun k => by
        have := hbd k
        unfold upd1; split <;> omega
      have hbo' : ∀ k, upd1 room (nth l i).At (nth l i).Count k ≤ 20 := fun k => by
        have := hbo k
        unfold upd1; split <;> omega
      repeat' (first | refine WP_seq ?_ | refine WP_region ?_ | refine wl_nil ?_ | refine then_normal ?_ | refine then_exit ?_ | refine inB_here ?_ | refine WP_skip ?_ | refine WP_exit ?_ | refine WP_drawTail 13 (by kernel_rfl) (by decide +kernel) ?_ | refine WP_draw (by kernel_rfl) (by kernel_rfl) ?_ | (refine ql_nil ?_; intro w hb; replace S := S.grow hb; clear hb) | (refine g_move ?_; refine st_move rfl ?_) | (refine g_pick ?_; refine st_pickF rfl rfl ?_) | (refine g_b_lss ?_; refine st_val rfl (r_lss rfl rfl) ?_) | (refine g_c_len ?_; refine st_val rfl (r_lenSlice rfl) ?_) | (refine g_fieldAddr ?_; refine st_val rfl (r_fieldAddr rfl) ?_) | (refine g_indexAddr ?_; (refine st_val rfl (r_indexAddr (hr3.mono S.below) rfl rfl ?_ ?_) ?_; (first | omega | (simp <;> omega)); (first | omega | (simp <;> omega)))) | (refine g_load ?_; (refine st_val rfl (r_loadElemF (hr3.mono S.below) rfl ?_ ?_ rfl) ?_; (first | omega | (simp <;> omega)); (first | omega | (simp <;> omega)))) | (refine gq_move ?_; refine q_move rfl ?_) | (refine gq_pick ?_; refine q_pickF rfl rfl ?_) | (refine gq_b_sub ?_; (refine q_val rfl (fun w' hb => r_subN rfl rfl ?_ ?_) ?_; (first | omega | (simp <;> omega)); (first | omega | (simp <;> omega)))) | (refine gq_b_gtr ?_; refine q_val rfl (fun w' hb => r_gtr rfl rfl) ?_) | (refine gq_b_geq ?_; refine q_val rfl (fun w' hb => r_geq rfl rfl) ?_) | (refine gq_fieldAddr ?_; refine q_val rfl (fun w' hb => r_fieldAddr rfl) ?_) | (refine gq_indexAddr ?_; first | (refine q_val rfl (fun w' hb => r_indexAddr (hr1.mono (S.grow hb).below) rfl rfl ?_ ?_) ?_; (first | omega | (simp <;> omega)); (first | omega | (simp <;> omega))) | (refine q_val rfl (fun w' hb => r_indexAddr (hr3.mono (S.grow hb).below) rfl rfl ?_ ?_) ?_; (first | omega | (simp <;> omega)); (first | omega | (simp <;> omega))) | (refine q_val rfl (fun w' hb => r_indexAddr ((S.grow hb).rdRow (D := (fInt .i64)) (i := 0) rfl) rfl rfl ?_ ?_) ?_; (first | omega | (simp <;> omega)); (first | omega | (simp <;> omega))) | (refine q_val rfl (fun w' hb => r_indexAddr ((S.grow hb).rdRow (D := (fInt .i64)) (i := 1) rfl) rfl rfl ?_ ?_) ?_; (first | omega | (simp <;> omega)); (first | omega | (simp <;> omega)))) | (refine gq_load ?_; first | (refine q_val rfl (fun w' hb => r_loadElemF (hr1.mono (S.grow hb).below) rfl ?_ ?_ rfl) ?_; (first | omega | (simp <;> omega)); (first | omega | (simp <;> omega))) | (refine q_val rfl (fun w' hb => r_loadElemF (hr3.mono (S.grow hb).below) rfl ?_ ?_ rfl) ?_; (first | omega | (simp <;> omega)); (first | omega | (simp <;> omega))) | (refine q_val rfl (fun w' hb => r_loadElem1 ((S.grow hb).rdRow (D := (fInt .i64)) (i := 0) rfl) rfl ?_ ?_ rfl) ?_; (first | omega | (simp <;> omega)); (first | omega | (simp <;> omega))) | (refine q_val rfl (fun w' hb => r_loadElem1 ((S.grow hb).rdRow (D := (fInt .i64)) (i := 1) rfl) rfl ?_ ?_ rfl) ?_; (first | omega | (simp <;> omega)); (first | omega | (simp <;> omega)))) | (refine wl_split rfl rfl (fun h => ?_) (fun h => ?_) <;> (fail_if_success (have hh : true = true := h)) <;> (fail_if_success (have hh : false = false := h)) <;> (try simp only [decide_eq_true_eq, decide_eq_false_iff_not, Bool.not_eq_true', Bool.not_eq_false', Int.not_lt, Int.not_le] at h) <;> (try (exfalso; omega)) <;> (try (exfalso; omega; done))) | (refine ql_split rfl rfl (fun h => ?_) (fun h => ?_) <;> (fail_if_success (have hh : true = true := h)) <;> (fail_if_success (have hh : false = false := h)) <;> (try simp only [decide_eq_true_eq, decide_eq_false_iff_not, Bool.not_eq_true', Bool.not_eq_false', Int.not_lt, Int.not_le] at h) <;> (try (exfalso; omega)) <;> (try (exfalso; omega; done))) | (refine WP_cond rfl (fun h => ?_) (fun h => ?_) <;> (fail_if_success (have hh : true = true := h)) <;> (fail_if_success (have hh : false = false := h)) <;> (try simp only [decide_eq_true_eq, decide_eq_false_iff_not, Bool.not_eq_true', Bool.not_eq_false', Int.not_lt, Int.not_le] at h) <;> (try (exfalso; omega)) <;> (try (exfalso; omega; done))))
      refine st_skipE rfl (r_storeElem (i := 0) (D := fInt .i64) (j := d) (x := left (nth l i).Debt - (nth l i).Count) S rfl rfl rfl (by rw [e1]; rfl) (fun c hc => by cases List.mem_singleton.1 hc; rfl) (by omega) (by omega)) ?_
      intro w S'; replace S := S'; clear S'
      rw [u1] at S
      replace S : St w0 w [rowOb (fInt .i64) 3 vl (ds.map fun d => upd1 left (nth l i).Debt (nth l i).Count d.ID), rowOb (fInt .i64) 3 vr (os.map fun o => room o.At)] := S
      repeat' (first | refine wl_nil ?_ | refine then_normal ?_ | refine WP_drawTail 13 (by kernel_rfl) (by decide +kernel) ?_ | (refine ql_nil ?_; intro w hb; replace S := S.grow hb; clear hb) | (refine gq_move ?_; refine q_move rfl ?_) | (refine gq_b_sub ?_; (refine q_val rfl (fun w' hb => r_subN rfl rfl ?_ ?_) ?_; (first | omega | (simp <;> omega)); (first | omega | (simp <;> omega)))) | (refine gq_fieldAddr ?_; refine q_val rfl (fun w' hb => r_fieldAddr rfl) ?_) | (refine gq_indexAddr ?_; first | (refine q_val rfl (fun w' hb => r_indexAddr (hr3.mono (S.grow hb).below) rfl rfl ?_ ?_) ?_; (first | omega | (simp <;> omega)); (first | omega | (simp <;> omega))) | (refine q_val rfl (fun w' hb => r_indexAddr ((S.grow hb).rdRow (D := (fInt .i64)) (i := 1) rfl) rfl rfl ?_ ?_) ?_; (first | omega | (simp <;> omega)); (first | omega | (simp <;> omega)))) | (refine gq_load ?_; first | (refine q_val rfl (fun w' hb => r_loadElemF (hr3.mono (S.grow hb).below) rfl ?_ ?_ rfl) ?_; (first | omega | (simp <;> omega)); (first | omega | (simp <;> omega))) | (refine q_val rfl (fun w' hb => r_loadElem1 ((S.grow hb).rdRow (D := (fInt .i64)) (i := 1) rfl) rfl ?_ ?_ rfl) ?_; (first | omega | (simp <;> omega)); (first | omega | (simp <;> omega)))))
      refine st_skipE rfl (r_storeElem (i := 1) (D := fInt .i64) (j := o) (x := room (nth l i).At - (nth l i).Count) S rfl rfl rfl (by rw [e2]; rfl) (fun c hc => by cases List.mem_singleton.1 hc; rfl) (by omega) (by omega)) ?_
      intro w S'; replace S := S'; clear S'
      rw [u2] at S
      repeat' (first | refine WP_region ?_ | refine wl_nil ?_ | refine then_normal ?_ | refine inB_normal ?_ | (refine g_move ?_; refine st_move rfl ?_) | (refine g_assign ?_; refine st_assign rfl ?_) | (refine g_b_add ?_; (refine st_val rfl (r_addN rfl rfl ?_ ?_) ?_; (first | omega | (simp <;> omega)); (first | omega | (simp <;> omega)))))
      refine ⟨⟨_, ?_, i + 1, _, _, ⟨rfl, rfl, rfl, rfl, rfl, rfl, rfl, trivial⟩, S, hA1', hA2', hbd', hbo', hg, by omega, by omega, rfl⟩⟩
      omega
  · rw [show i.toNat = l.length by omega, List.drop_length] at hg
    have hfin : goodB now (duF ds) (cnF ds) (rmF os) l = true := hg
    rw [hfin]
    repeat' (first | refine WP_seq ?_ | refine WP_region ?_ | refine wl_nil ?_ | refine then_normal ?_ | refine then_exit ?_ | refine inB_here ?_ | refine WP_ret ?_ | refine WP_exit ?_ | (refine g_move ?_; refine st_move rfl ?_) | (refine g_assign ?_; refine st_assign rfl ?_) | (refine g_b_lss ?_; refine st_val rfl (r_lss rfl rfl) ?_) | (refine g_c_len ?_; refine st_val rfl (r_lenSlice rfl) ?_) | (refine WP_cond rfl (fun h => ?_) (fun h => ?_) <;> (fail_if_success (have hh : true = true := h)) <;> (fail_if_success (have hh : false = false := h)) <;> (try simp only [decide_eq_true_eq, decide_eq_false_iff_not, Bool.not_eq_true', Bool.not_eq_false', Int.not_lt, Int.not_le] at h) <;> (try (exfalso; omega))))
    exact end1 rfl rfl ⟨rfl, S.below⟩
end Go.Proofs.YtgdmaadikcnagaaDoor
/- Servings that make good for some of valid debts, and that integers determine. -/
namespace Go.Proofs.YtgdmaadikcnagaaDoor
open Go Go.Gx Go.RowKit
set_option linter.unusedVariables false
set_option linter.unusedSimpArgs false

theorem good14_is {b : Bool} {ds : List GDebt} {os : List GOpening} {now : Int} {l : List GServing} {v1 v2 v3 : Value} {w0 : World} (h : goodB now (duF ds) (cnF ds) (rmF os) l = b) (hins : InsOk ds os) (hdc : ∀ d ∈ ds, d.Count ≤ 50) (hoc : ∀ o ∈ os, o.Count ≤ 20) (hr1 : Rd fGDebt.ty w0 v1 ds) (hr2 : Rd fGOpening.ty w0 v2 os) (hr3 : Rd fGServing.ty w0 v3 l) (hl1 : ds.length ≤ 1000000) (hl2 : os.length ≤ 1000000) (hl3 : l.length ≤ 1000000000) :
    CallsV Tryd.prog 20 #[v1, v2, .int .i64 now, v3] w0 (.bool b) := by
  rw [← h]; exact good_spec14 hins hdc hoc hr1 hr2 hr3 hl1 hl2 hl3
def servC (ds : List GDebt) (os : List GOpening) (K : GArr3Int) : GServing := ⟨(nth ds (pickI K.a0 ds.length)).ID, (nth os (pickI K.a1 os.length)).At, 1 + pickI K.a2 4⟩
/-- One more serving, if it can be. -/
def servA (ds : List GDebt) (os : List GOpening) (now : Int) (out : List GServing) (K : GArr3Int) : List GServing := if goodB now (duF ds) (cnF ds) (rmF os) (out ++ [servC ds os K]) = true then out ++ [servC ds os K] else out
def servL (ds : List GDebt) (os : List GOpening) (now : Int) (xs : List GArr3Int) : List GServing := xs.foldl (servA ds os now) []
/-- Servings that integers determine. -/
def servsL (ds : List GDebt) (os : List GOpening) (now : Int) (xs : List GArr3Int) : List GServing := if 0 < ds.length ∧ 0 < os.length then servL ds os now (xs.take 40) else []
theorem servL_snoc {ds : List GDebt} {os : List GOpening} {now : Int} {xs : List GArr3Int} {K : GArr3Int} : servL ds os now (xs ++ [K]) = servA ds os now (servL ds os now xs) K := by unfold servL; rw [List.foldl_append]; rfl
theorem servF_len {ds : List GDebt} {os : List GOpening} {now : Int} : ∀ {xs : List GArr3Int} {out : List GServing}, (xs.foldl (servA ds os now) out).length ≤ out.length + xs.length
  | [], out => by simp
  | K :: r, out => by
    have h := servF_len (ds := ds) (os := os) (now := now) (xs := r) (out := servA ds os now out K)
    have : (servA ds os now out K).length ≤ out.length + 1 := by
      unfold servA; split
      · rw [List.length_append]; exact Nat.le_refl _
      · omega
    simp only [List.foldl_cons, List.length_cons]; omega
theorem servL_len {ds : List GDebt} {os : List GOpening} {now : Int} {xs : List GArr3Int} : (servL ds os now xs).length ≤ xs.length := by
  have := servF_len (ds := ds) (os := os) (now := now) (xs := xs) (out := []); simpa [servL] using this
theorem servF_good {ds : List GDebt} {os : List GOpening} {now : Int} : ∀ {xs : List GArr3Int} {out : List GServing}, goodB now (duF ds) (cnF ds) (rmF os) out = true → goodB now (duF ds) (cnF ds) (rmF os) (xs.foldl (servA ds os now) out) = true
  | [], out, h => h
  | K :: r, out, h => by
    refine servF_good (xs := r) (out := servA ds os now out K) ?_
    unfold servA; split
    · assumption
    · exact h
theorem servsL_good {ds : List GDebt} {os : List GOpening} {now : Int} {xs : List GArr3Int} : goodB now (duF ds) (cnF ds) (rmF os) (servsL ds os now xs) = true := by
  unfold servsL; split
  · exact servF_good rfl
  · rfl
theorem servsL_len {ds : List GDebt} {os : List GOpening} {now : Int} {xs : List GArr3Int} : (servsL ds os now xs).length ≤ 40 := by
  unfold servsL; split
  · have := servL_len (ds := ds) (os := os) (now := now) (xs := xs.take 40)
    rw [List.length_take] at this; omega
  · exact Nat.zero_le _
set_option maxHeartbeats 4000000 in
theorem servs_run {v1 v2 v : Value} {ds : List GDebt} {os : List GOpening} {now : Int} {xs : List GArr3Int} {w0 : World} (hins : InsOk ds os) (hdc : ∀ d ∈ ds, d.Count ≤ 50) (hoc : ∀ o ∈ os, o.Count ≤ 20) (hr1 : Rd fGDebt.ty w0 v1 ds) (hr2 : Rd fGOpening.ty w0 v2 os) (hl1 : ds.length ≤ 1000000) (hl2 : os.length ≤ 1000000) (hr : Rd fGArr3Int.ty w0 v xs) (hx : ∀ x ∈ xs, okA3 x) (hl : xs.length ≤ maxLen) :
    CallsR Tryd.prog 19 #[v1, v2, .int .i64 now, v] w0 (fun r w' => NewRow fGServing 56 w0 w' r (servsL ds os now xs)) := by
  have S := St.start w0
  have hml : maxLen ≤ 9223372036854775807 := by decide
  obtain ⟨A, c, rfl⟩ := hr.len
  obtain ⟨A1, c1, rfl⟩ := hr1.len
  obtain ⟨A2, c2, rfl⟩ := hr2.len
  refine CallsR.mk ?_
  refine calls_enter Tryd.func19 rfl (by intro _ h; first | exact nomatch h.1 | (obtain ⟨_, h, _⟩ := h; exact nomatch h)) Tryd.ntmps19 rfl ?_
  repeat' (first | refine WP_seq ?_ | refine WP_region ?_ | refine wl_nil ?_ | refine then_normal ?_ | refine WP_block ?_ | (refine g_assign ?_; refine st_assign rfl ?_))
  replace S := S.nilRow fGServing 56
  by_cases hne : 0 < ds.length ∧ 0 < os.length
  · obtain ⟨hn1, hn2⟩ := hne
    refine WP_loop (fun m σ w1 => ∃ (p : Int) (vo : Value), Has σ [(0, .slice A1 ds.length c1), (1, .slice A2 os.length c2), (2, .int .i64 now), (3, .slice A xs.length c), (9, vo), (10, .int .i64 p)] ∧ St w0 w1 [rowOb fGServing 56 vo (servL ds os now (xs.take p.toNat))] ∧ 0 ≤ p ∧ p ≤ min xs.length 40 ∧ m = 40 - p.toNat) 40 ⟨0, _, ⟨rfl, rfl, rfl, rfl, rfl, rfl, trivial⟩, S, by omega, by omega, rfl⟩ ?_
    clear S
    rintro m σ w1 ⟨p, vo, hs, S, hp, hi1, hm⟩
    refine WP_has hs ?_
    have hol := servL_len (ds := ds) (os := os) (now := now) (xs := xs.take p.toNat)
    rw [List.length_take] at hol
    by_cases hi : p < min xs.length 40
    · obtain ⟨x0, x1, x2⟩ := hx _ (mem_nth (l := xs) (i := p) (by omega) (by omega))
      unfold inI at x0 x1 x2
      have r0 := pickI_range (c := (nth xs p).a0) (n := ds.length) (by omega)
      have r1 := pickI_range (c := (nth xs p).a1) (n := os.length) (by omega)
      have r2 := pickI_range (c := (nth xs p).a2) (n := 4) (by omega)
      have hst := servL_snoc (ds := ds) (os := os) (now := now) (K := nth xs p) (xs := xs.take p.toNat)
      rw [← take_snoc hp (by omega)] at hst
      obtain ⟨out, hout⟩ : ∃ out, servL ds os now (xs.take p.toNat) = out := ⟨_, rfl⟩
      rw [hout] at S hst hol
      obtain ⟨sv, hsv⟩ : ∃ sv, servC ds os (nth xs p) = sv := ⟨_, rfl⟩
      unfold servA at hst
      rw [hsv] at hst
      repeat' (first | refine WP_seq ?_ | refine WP_region ?_ | refine wl_nil ?_ | refine then_normal ?_ | refine WP_skip ?_ | refine WP_block ?_ | refine WP_drawGrow 32 33 (by kernel_rfl) (by decide +kernel) ?_ | refine wg_nil ?_ | (refine wg_val rfl (r_alloc S) (by rintro _ _ ⟨b, -, h, -⟩; exact h) ?_; rintro _ w ⟨b, rfl, -, S'⟩ w hb; replace S := S'.grow hb; clear S' hb) | (refine ql_nil ?_; intro w hb; replace S := S.grow hb; clear hb) | (refine g_move ?_; refine st_move rfl ?_) | (refine g_pick ?_; refine st_pickT rfl rfl ?_) | (refine g_b_lss ?_; refine st_val rfl (r_lss rfl rfl) ?_) | (refine g_b_gtr ?_; refine st_val rfl (r_gtr rfl rfl) ?_) | (refine g_c_len ?_; refine st_val rfl (r_lenSlice rfl) ?_) | (refine gq_move ?_; refine q_move rfl ?_) | (refine gq_b_add ?_; (refine q_val rfl (fun w' hb => r_addN rfl rfl ?_ ?_) ?_; (first | omega | (simp <;> omega)); (first | omega | (simp <;> omega)))) | (refine gq_build ?_; refine q_val rfl (fun w' hb => bd56_0_1_2 rfl rfl rfl) ?_) | (refine gq_c_len ?_; refine q_val rfl (fun w' hb => r_lenSlice rfl) ?_) | (refine gq_fieldAddr ?_; refine q_val rfl (fun w' hb => r_fieldAddr rfl) ?_) | (refine gq_indexAddr ?_; first | (refine q_val rfl (fun w' hb => r_indexAddr (hr.mono (S.grow hb).below) rfl rfl ?_ ?_) ?_; (first | omega | (simp <;> omega)); (first | omega | (simp <;> omega))) | (refine q_val rfl (fun w' hb => r_indexAddr (hr1.mono (S.grow hb).below) rfl rfl ?_ ?_) ?_; (first | omega | (simp <;> omega)); (first | omega | (simp <;> omega))) | (refine q_val rfl (fun w' hb => r_indexAddr (hr2.mono (S.grow hb).below) rfl rfl ?_ ?_) ?_; (first | omega | (simp <;> omega)); (first | omega | (simp <;> omega))) | (refine q_val rfl (fun w' hb => r_indexAddrArrE rfl rfl ?_ ?_) ?_; (first | omega | (simp <;> omega)); (first | omega | (simp <;> omega)))) | (refine gq_load ?_; first | (refine q_val rfl (fun w' hb => r_loadElem1 (hr.mono (S.grow hb).below) rfl ?_ ?_ rfl) ?_; (first | omega | (simp <;> omega)); (first | omega | (simp <;> omega))) | (refine q_val rfl (fun w' hb => r_loadElemF (hr.mono (S.grow hb).below) rfl ?_ ?_ rfl) ?_; (first | omega | (simp <;> omega)); (first | omega | (simp <;> omega))) | (refine q_val rfl (fun w' hb => r_loadElem1 (hr1.mono (S.grow hb).below) rfl ?_ ?_ rfl) ?_; (first | omega | (simp <;> omega)); (first | omega | (simp <;> omega))) | (refine q_val rfl (fun w' hb => r_loadElem1 (hr2.mono (S.grow hb).below) rfl ?_ ?_ rfl) ?_; (first | omega | (simp <;> omega)); (first | omega | (simp <;> omega)))) | (refine gq_callV ?_; refine q_callV rfl (fun w' hb => r_call2 rfl rfl rfl) (fun w' hb => pickR_spec (by omega) (by omega) (by omega)) ?_) | (refine g_store ?_; first | (refine st_skipE rfl (r_storeVar (i := 0) S rfl rfl rfl rfl (of_decide_eq_true rfl) (of_decide_eq_true rfl)) ?_; intro w S'; replace S := S'; clear S') | (refine st_skipE rfl (r_storeVar (i := 1) S rfl rfl rfl rfl (of_decide_eq_true rfl) (of_decide_eq_true rfl)) ?_; intro w S'; replace S := S'; clear S')) | (refine wl_split rfl rfl (fun h => ?_) (fun h => ?_) <;> (fail_if_success (have hh : true = true := h)) <;> (fail_if_success (have hh : false = false := h)) <;> (try simp only [decide_eq_true_eq, decide_eq_false_iff_not, Bool.not_eq_true', Bool.not_eq_false', Int.not_lt, Int.not_le] at h) <;> (try (exfalso; omega)) <;> (try (exfalso; omega; done))) | (refine WP_cond rfl (fun h => ?_) (fun h => ?_) <;> (fail_if_success (have hh : true = true := h)) <;> (fail_if_success (have hh : false = false := h)) <;> (try simp only [decide_eq_true_eq, decide_eq_false_iff_not, Bool.not_eq_true', Bool.not_eq_false', Int.not_lt, Int.not_le] at h) <;> (try (exfalso; omega)) <;> (try (exfalso; omega; done))))
      clear hs
      replace S : St w0 w [rowOb fGServing 56 vo out, .var b 56 sv.enc] := by rw [← hsv]; exact S
      have hdl : (out ++ [sv]).length = out.length + 1 := by rw [List.length_append, List.length_singleton]
      obtain ⟨gb, hgb⟩ : ∃ gb, goodB now (duF ds) (cnF ds) (rmF os) (out ++ [sv]) = gb := ⟨_, rfl⟩
      rw [hgb] at hst
      refine WP_then_cut (fun σ w1 => Has σ [(0, .slice A1 ds.length c1), (1, .slice A2 os.length c2), (2, .int .i64 now), (3, .slice A xs.length c), (9, vo), (10, .int .i64 p), (11, .pointer (some ⟨b, 0, none⟩)), (73, .bool gb)] ∧ St w0 w1 [rowOb fGServing 56 vo out, .var b 56 sv.enc]) ?_ ?_
      · refine WP_drawT (fun w' => St w0 w' [rowOb fGServing 56 vo out, .var b 56 sv.enc]) [0, 1, 2, 4, 6] (.two 3 (.two 5 (.one 7 (.one 8 (.one 9 .fin))) 7 (.one 5 (.one 8 (.one 9 .fin)))) 7 (.one 3 (.one 5 (.one 8 (.one 9 .fin))))) [] (by kernel_rfl) (by decide) (by decide +kernel) (fun w' hb => S.grow hb) ?_
        intro w hb; replace S := S.grow hb; clear hb
        refine jq_val rfl (fun w' hJ => ⟨rfl⟩) ?_
        refine jq_val rfl (fun w' hJ => ⟨rfl⟩) ?_
        refine jq_val rfl (fun w' hJ => ⟨rfl⟩) ?_
        refine jq_val rfl (fun w' hJ => ⟨rfl⟩) ?_
        refine jq_val (v := .agg sv.enc.toArray) rfl (fun w' hJ => r_loadVarA (i := 1) hJ rfl rfl rfl rfl) ?_
        refine jq_nil ?_
        refine wt_two ?_ ?_
        · refine kq_valE rfl (r_lit0 (D := fGServing) S) ?_; rintro vX w ⟨-, S'⟩; refine ⟨S'.keep [true, true], ?_⟩; replace S := S'; clear S'
          refine wt_two ?_ ?_
          · refine kq_valE rfl (r_appendRd (i := 2) (l := []) (D := fGServing) S rfl (S.rdRow (D := fGServing) (i := 0) rfl) rfl rfl rfl (by decide) one_s (by simp; omega) (by simp; omega)) ?_; rintro vX1 w ⟨-, S'⟩; refine ⟨S'.keep [true, true], ?_⟩; replace S := S'; clear S'
            refine wt_one ?_
            refine kq_valE rfl (r_litF (D := fGServing) [sv] (fun y => .agg y.enc.toArray) S rfl rfl (fun _ => rfl) rfl (by decide) (by decide)) ?_; rintro _ w ⟨bl, rfl, -, -, S'⟩; refine ⟨S'.keep [true, true], ?_⟩; replace S := S'; clear S'
            refine wt_one ?_
            refine kq_valE rfl (r_appendRd (i := 2) (l := [] ++ out) (D := fGServing) S rfl (S.rdRow (D := fGServing) (i := 3) rfl) rfl rfl rfl (by decide) one_s (by simp; omega) (by simp; omega)) ?_; rintro vX2 w ⟨-, S'⟩; refine ⟨S'.keep [true, true], ?_⟩; replace S := S'; clear S'
            replace S : St w0 w [rowOb fGServing 56 vo out, .var b 56 sv.enc, rowOb fGServing 56 vX2 (out ++ [sv])] := by first | exact S.keep [true, true, true, false] | exact S.keep [true, true, false, true]
            refine wt_one ?_
            refine kq_callV rfl (r_call4 rfl rfl rfl rfl rfl) (good14_is hgb hins hdc hoc (hr1.mono S.below) (hr2.mono S.below) (S.rdRow (D := fGServing) (i := 2) rfl) (by omega) (by omega) (by rw [hdl]; omega)) ?_; intro w hb; refine ⟨(S.grow hb).keep [true, true], ?_⟩; replace S := S.grow hb; clear hb
            refine wt_fin ?_
            refine jq_nil ?_
            refine calm_normal ?_
            refine then_normal ?_
            exact ⟨⟨rfl, rfl, rfl, rfl, rfl, rfl, rfl, rfl, trivial⟩, S.keep [true, true, false]⟩
          · refine kq_valE rfl (r_litF (D := fGServing) [sv] (fun y => .agg y.enc.toArray) S rfl rfl (fun _ => rfl) rfl (by decide) (by decide)) ?_; rintro _ w ⟨bl, rfl, -, -, S'⟩; refine ⟨S'.keep [true, true], ?_⟩; replace S := S'; clear S'
            refine wt_one ?_
            refine kq_valE rfl (r_appendRd (i := 2) (l := []) (D := fGServing) S rfl (S.rdRow (D := fGServing) (i := 0) rfl) rfl rfl rfl (by decide) one_s (by simp; omega) (by simp; omega)) ?_; rintro vX1 w ⟨-, S'⟩; refine ⟨S'.keep [true, true], ?_⟩; replace S := S'; clear S'
            refine wt_one ?_
            refine kq_valE rfl (r_appendRd (i := 2) (l := [] ++ out) (D := fGServing) S rfl (S.rdRow (D := fGServing) (i := 3) rfl) rfl rfl rfl (by decide) one_s (by simp; omega) (by simp; omega)) ?_; rintro vX2 w ⟨-, S'⟩; refine ⟨S'.keep [true, true], ?_⟩; replace S := S'; clear S'
            replace S : St w0 w [rowOb fGServing 56 vo out, .var b 56 sv.enc, rowOb fGServing 56 vX2 (out ++ [sv])] := by first | exact S.keep [true, true, true, false] | exact S.keep [true, true, false, true]
            refine wt_one ?_
            refine kq_callV rfl (r_call4 rfl rfl rfl rfl rfl) (good14_is hgb hins hdc hoc (hr1.mono S.below) (hr2.mono S.below) (S.rdRow (D := fGServing) (i := 2) rfl) (by omega) (by omega) (by rw [hdl]; omega)) ?_; intro w hb; refine ⟨(S.grow hb).keep [true, true], ?_⟩; replace S := S.grow hb; clear hb
            refine wt_fin ?_
            refine jq_nil ?_
            refine calm_normal ?_
            refine then_normal ?_
            exact ⟨⟨rfl, rfl, rfl, rfl, rfl, rfl, rfl, rfl, trivial⟩, S.keep [true, true, false]⟩
        · refine kq_valE rfl (r_litF (D := fGServing) [sv] (fun y => .agg y.enc.toArray) S rfl rfl (fun _ => rfl) rfl (by decide) (by decide)) ?_; rintro _ w ⟨bl, rfl, -, -, S'⟩; refine ⟨S'.keep [true, true], ?_⟩; replace S := S'; clear S'
          refine wt_one ?_
          refine kq_valE rfl (r_lit0 (D := fGServing) S) ?_; rintro vX w ⟨-, S'⟩; refine ⟨S'.keep [true, true], ?_⟩; replace S := S'; clear S'
          refine wt_one ?_
          refine kq_valE rfl (r_appendRd (i := 3) (l := []) (D := fGServing) S rfl (S.rdRow (D := fGServing) (i := 0) rfl) rfl rfl rfl (by decide) one_s (by simp; omega) (by simp; omega)) ?_; rintro vX1 w ⟨-, S'⟩; refine ⟨S'.keep [true, true], ?_⟩; replace S := S'; clear S'
          refine wt_one ?_
          refine kq_valE rfl (r_appendRd (i := 3) (l := [] ++ out) (D := fGServing) S rfl (S.rdRow (D := fGServing) (i := 2) rfl) rfl rfl rfl (by decide) one_s (by simp; omega) (by simp; omega)) ?_; rintro vX2 w ⟨-, S'⟩; refine ⟨S'.keep [true, true], ?_⟩; replace S := S'; clear S'
          replace S : St w0 w [rowOb fGServing 56 vo out, .var b 56 sv.enc, rowOb fGServing 56 vX2 (out ++ [sv])] := by first | exact S.keep [true, true, true, false] | exact S.keep [true, true, false, true]
          refine wt_one ?_
          refine kq_callV rfl (r_call4 rfl rfl rfl rfl rfl) (good14_is hgb hins hdc hoc (hr1.mono S.below) (hr2.mono S.below) (S.rdRow (D := fGServing) (i := 2) rfl) (by omega) (by omega) (by rw [hdl]; omega)) ?_; intro w hb; refine ⟨(S.grow hb).keep [true, true], ?_⟩; replace S := S.grow hb; clear hb
          refine wt_fin ?_
          refine jq_nil ?_
          refine calm_normal ?_
          refine then_normal ?_
          exact ⟨⟨rfl, rfl, rfl, rfl, rfl, rfl, rfl, rfl, trivial⟩, S.keep [true, true, false]⟩
      clear S
      rintro σ w1 ⟨hs, S⟩
      refine WP_has hs ?_
      cases gb with
      | true =>
        rw [if_pos rfl] at hst
        repeat' (first | refine WP_region ?_ | refine WP_condT rfl ?_ | (refine g_move ?_; refine st_move rfl ?_) | (refine g_load ?_; refine st_val rfl (r_loadVarA (i := 1) S rfl rfl rfl rfl) ?_))
        refine st_valE rfl (r_litF (D := fGServing) [sv] (fun y => .agg y.enc.toArray) S rfl rfl (fun _ => rfl) rfl (by decide) (by decide)) ?_
        rintro _ w ⟨bl, rfl, -, hcl, S'⟩; replace S := S'; clear S'
        refine st_valE rfl (r_append1 (D := fGServing) (i := 0) (b := bl) (x := sv) S rfl rfl rfl (fl_one hcl) rfl (by decide) (one_s _) (by omega) (by omega)) ?_
        rintro vo' w ⟨-, S'⟩; replace S := S'; clear S' hcl
        repeat' (first | refine WP_region ?_ | refine wl_nil ?_ | refine then_normal ?_ | refine inB_normal ?_ | (refine g_move ?_; refine st_move rfl ?_) | (refine g_assign ?_; refine st_assign rfl ?_) | (refine g_b_add ?_; (refine st_val rfl (r_addN rfl rfl ?_ ?_) ?_; (first | omega | (simp <;> omega)); (first | omega | (simp <;> omega)))))
        refine ⟨⟨_, ?_, p + 1, vo', ⟨rfl, rfl, rfl, rfl, rfl, rfl, trivial⟩, by rw [hst]; exact S.keep [true], by omega, by omega, rfl⟩⟩
        omega
      | false =>
        rw [if_neg (by decide)] at hst
        repeat' (first | refine WP_region ?_ | refine wl_nil ?_ | refine then_normal ?_ | refine inB_normal ?_ | refine WP_skip ?_ | refine WP_condF rfl ?_ | (refine g_move ?_; refine st_move rfl ?_) | (refine g_assign ?_; refine st_assign rfl ?_) | (refine g_b_add ?_; (refine st_val rfl (r_addN rfl rfl ?_ ?_) ?_; (first | omega | (simp <;> omega)); (first | omega | (simp <;> omega)))))
        refine ⟨⟨_, ?_, p + 1, vo, ⟨rfl, rfl, rfl, rfl, rfl, rfl, trivial⟩, by rw [hst]; exact S.keep [true], by omega, by omega, rfl⟩⟩
        omega
    · have hii : xs.take p.toNat = xs.take 40 := by
        by_cases h : xs.length ≤ 40
        · rw [List.take_of_length_le (by omega), List.take_of_length_le (by omega)]
        · rw [show p.toNat = 40 by omega]
      rw [hii] at S
      have hfin : servsL ds os now xs = servL ds os now (xs.take 40) := if_pos ⟨hn1, hn2⟩
      repeat' (first | refine WP_seq ?_ | refine WP_region ?_ | refine wl_nil ?_ | refine then_normal ?_ | refine then_exit ?_ | refine inB_here ?_ | refine WP_ret ?_ | refine WP_exit ?_ | refine WP_condF rfl ?_ | (refine g_guard ?_; refine st_off rfl ?_) | (refine g_move ?_; refine st_move rfl ?_) | (refine g_assign ?_; refine st_assign rfl ?_) | (refine g_pick ?_; first | refine st_pickT rfl rfl ?_ | refine st_pickF rfl rfl ?_) | (refine g_b_lss ?_; refine st_val rfl (r_lss rfl rfl) ?_) | (refine g_c_len ?_; refine st_val rfl (r_lenSlice rfl) ?_) | (refine wl_split rfl rfl (fun h => ?_) (fun h => ?_) <;> (fail_if_success (have hh : true = true := h)) <;> (fail_if_success (have hh : false = false := h)) <;> (try simp only [decide_eq_true_eq, decide_eq_false_iff_not, Bool.not_eq_true', Bool.not_eq_false', Int.not_lt, Int.not_le] at h) <;> (try (exfalso; omega)) <;> (try (exfalso; omega; done))))
      all_goals exact end1 rfl rfl ⟨_, rfl, S.below, by rw [hfin]; exact S.row (i := 0) rfl⟩
  · have hfin : servsL ds os now xs = [] := if_neg hne
    refine WP_loop (fun m σ w1 => Has σ [(0, .slice A1 ds.length c1), (1, .slice A2 os.length c2), (2, .int .i64 now), (3, .slice A xs.length c), (9, .slice none 0 0), (10, .int .i64 0)] ∧ St w0 w1 [rowOb fGServing 56 (.slice none 0 0) []] ∧ m = 0) 0 ⟨⟨rfl, rfl, rfl, rfl, rfl, rfl, trivial⟩, S, rfl⟩ ?_
    clear S
    rintro m σ w1 ⟨hs, S, hm⟩
    refine WP_has hs ?_
    repeat' (first | refine WP_seq ?_ | refine WP_region ?_ | refine wl_nil ?_ | refine then_normal ?_ | refine then_exit ?_ | refine inB_here ?_ | refine WP_ret ?_ | refine WP_exit ?_ | refine WP_condF rfl ?_ | (refine g_guard ?_; refine st_off rfl ?_) | (refine g_move ?_; refine st_move rfl ?_) | (refine g_assign ?_; refine st_assign rfl ?_) | (refine g_pick ?_; first | refine st_pickT rfl rfl ?_ | refine st_pickF rfl rfl ?_) | (refine g_b_lss ?_; refine st_val rfl (r_lss rfl rfl) ?_) | (refine g_b_gtr ?_; refine st_val rfl (r_gtr rfl rfl) ?_) | (refine g_c_len ?_; refine st_val rfl (r_lenSlice rfl) ?_) | (refine wl_split rfl rfl (fun h => ?_) (fun h => ?_) <;> (fail_if_success (have hh : true = true := h)) <;> (fail_if_success (have hh : false = false := h)) <;> (try simp only [decide_eq_true_eq, decide_eq_false_iff_not, Bool.not_eq_true', Bool.not_eq_false', Int.not_lt, Int.not_le] at h) <;> (try (exfalso; omega)) <;> (try (exfalso; omega; done))) | (refine WP_cond rfl (fun h => ?_) (fun h => ?_) <;> (fail_if_success (have hh : true = true := h)) <;> (fail_if_success (have hh : false = false := h)) <;> (try simp only [decide_eq_true_eq, decide_eq_false_iff_not, Bool.not_eq_true', Bool.not_eq_false', Int.not_lt, Int.not_le] at h) <;> (try (exfalso; omega)) <;> (try (exfalso; omega; done))))
    all_goals exact end1 rfl rfl ⟨_, rfl, S.below, by rw [hfin]; exact S.row (i := 0) rfl⟩
end Go.Proofs.YtgdmaadikcnagaaDoor
/- No servings that make good for some of the debts have more in all than those of Plan, which make good for some of them, too. -/
namespace Go.Proofs.YtgdmaadikcnagaaDoor
open Go Go.Gx Go.RowKit
set_option linter.unusedVariables false
set_option linter.unusedSimpArgs false

theorem servs_cnt {ds : List GDebt} {os : List GOpening} {now : Int} {xs : List GArr3Int} (hc : ∀ d ∈ ds, d.Count ≤ 50) : ∀ s ∈ servsL ds os now xs, 0 ≤ s.Count ∧ s.Count ≤ 1000000 := fun s hs => by
  have := good_cnt (left := cnF ds) (room := rmF os) servsL_good (cnF_le hc) s hs
  omega
set_option maxHeartbeats 4000000 in
theorem lawMost_spec {vx vy vs : Value} {xs ss : List GArr3Int} {ys : List GArr2Int} {now : Int} {w0 : World} (hGK : TblAt w0 ∧ KindsAt w0) (hr1 : Rd fGArr3Int.ty w0 vx xs) (hx : ∀ x ∈ xs, okA3 x) (hxl : xs.length ≤ maxLen) (hr2 : Rd fGArr2Int.ty w0 vy ys) (hy : ∀ y ∈ ys, okA2 y) (hyl : ys.length ≤ maxLen) (hn : inI now) (hr3 : Rd fGArr3Int.ty w0 vs ss) (hs3 : ∀ x ∈ ss, okA3 x) (hsl : ss.length ≤ maxLen) :
    CallsV Tryd.prog 7 #[vx, vy, .int .i64 now, vs] w0 (.bool true) := by
  obtain ⟨hG, hK⟩ := hGK
  have S := St.start w0
  refine CallsV.mk ?_
  refine calls_enter Tryd.func7 rfl (by intro _ h; first | exact nomatch h.1 | (obtain ⟨_, h, _⟩ := h; exact nomatch h)) Tryd.ntmps7 rfl ?_
  repeat' (first | refine WP_seq ?_ | refine WP_region ?_ | refine wl_nil ?_ | refine then_normal ?_ | refine WP_skip ?_ | refine WP_condF rfl ?_ | (refine g_move ?_; refine st_move rfl ?_) | (refine g_assign ?_; refine st_assign rfl ?_) | (refine g_un ?_; refine st_val rfl (r_not rfl) ?_) | (refine g_callV ?_; (refine st_callV rfl (r_call0 rfl) (sane_spec (hG.mono S.below) (hK.mono S.below)) ?_; intro w hb; replace S := S.grow hb; clear hb)))
  refine st_callR rfl (r_call1 rfl rfl) (debts_run (hr1.mono S.below) hx hxl) ?_; rintro vD w hb hrow; replace S := S.new hb hrow; clear hb hrow
  obtain ⟨ds, hds⟩ : ∃ ds, debtsL xs = ds := ⟨_, rfl⟩
  have hdl : ds.length ≤ 10 := by rw [← hds]; exact debtsL_len xs
  rw [hds] at S
  obtain ⟨AD, cD, hz⟩ := (S.rdRow (D := fGDebt) (i := 0) rfl).len; subst hz
  repeat' (first | refine WP_seq ?_ | refine WP_region ?_ | refine wl_nil ?_ | refine then_normal ?_ | (refine g_move ?_; refine st_move rfl ?_) | (refine g_assign ?_; refine st_assign rfl ?_))
  refine st_callR rfl (r_call1 rfl rfl) (opens_run (hr2.mono S.below) hy hyl) ?_; rintro vO w hb hrow; replace S := S.new hb hrow; clear hb hrow
  obtain ⟨os, hos⟩ : ∃ os, opsL ys = os := ⟨_, rfl⟩
  have hol : os.length ≤ 16 := by rw [← hos]; exact opsL_len ys
  rw [hos] at S
  obtain ⟨AO, cO, hz⟩ := (S.rdRow (D := fGOpening) (i := 1) rfl).len; subst hz
  have rt := pickI_range (c := now) (n := 200) (by omega)
  obtain ⟨t, ht⟩ : ∃ t, pickI now 200 = t := ⟨_, rfl⟩
  rw [ht] at rt
  have hv : validI ds os t = true := by rw [← hds, ← hos]; exact made_valid xs ys (by omega)
  have hins := validI_ins hv
  have hor : ∀ o ∈ os, 0 ≤ o.At ∧ o.At ≤ 640 ∧ 1 ≤ o.Count ∧ o.Count ≤ 6 := by rw [← hos]; exact opsL_rng ys
  unfold inI at hn
  replace S : St w0 w [rowOb fGDebt 33 (.slice AD ds.length cD) ds, rowOb fGOpening 52 (.slice AO os.length cO) os] := S

  have hdc := debts_cnt hv
  have hdc5 : ∀ d ∈ ds, d.Count ≤ 50 := fun d hd => (hdc d hd).2.1
  have hoc5 : ∀ o ∈ os, o.Count ≤ 20 := fun o ho => by have := hor o ho; omega
  repeat' (first | refine WP_seq ?_ | refine WP_region ?_ | refine wl_nil ?_ | refine then_normal ?_ | (refine g_move ?_; refine st_move rfl ?_) | (refine g_assign ?_; refine st_assign rfl ?_) | (refine g_callV ?_; (refine st_callV rfl (r_call2 rfl rfl rfl) (pickL_is ht (by omega) (by omega) (by omega)) ?_; intro w hb; replace S := S.grow hb; clear hb)))
  refine st_callR rfl (r_call3 rfl rfl rfl rfl) (plan_run (now := t) (S.rdRow (D := fGDebt) (i := 0) rfl) (S.rdRow (D := fGOpening) (i := 1) rfl) (by omega) (by omega)) ?_
  rintro _ w hb ⟨vo, out, all, er, rfl, hrow, hif⟩; replace S := S.new hb hrow; clear hb hrow
  rw [if_pos hv] at hif
  obtain ⟨rfl, hlen, l, hl, ho, ha⟩ := hif
  have hP := planR_ok hv hl ho
  obtain ⟨AP, cP, hz⟩ := (S.rdRow (D := fGServing) (i := 2) rfl).len; subst hz
  repeat' (first | refine WP_seq ?_ | refine WP_region ?_ | refine wl_nil ?_ | refine then_normal ?_ | refine WP_skip ?_ | refine WP_condF rfl ?_ | (refine g_move ?_; refine st_move rfl ?_) | (refine g_assign ?_; refine st_assign rfl ?_) | (refine g_pick ?_; refine st_pickF rfl rfl ?_) | (refine g_b_neq ?_; refine st_val rfl (r_neq rfl rfl) ?_) | (refine g_un ?_; refine st_val rfl (r_not rfl) ?_) | (refine g_extract ?_; refine st_val rfl (r_extract rfl rfl) ?_) | (refine g_callV ?_; (refine st_callV rfl (r_call4 rfl rfl rfl rfl rfl) (good14_is hP.good hins hdc5 hoc5 (S.rdRow (D := fGDebt) (i := 0) rfl) (S.rdRow (D := fGOpening) (i := 1) rfl) (S.rdRow (D := fGServing) (i := 2) rfl) (by omega) (by omega) (by omega)) ?_; intro w hb; replace S := S.grow hb; clear hb)))
  refine st_callR rfl (r_call4 rfl rfl rfl rfl rfl) (servs_run (now := t) hins hdc5 hoc5 (S.rdRow (D := fGDebt) (i := 0) rfl) (S.rdRow (D := fGOpening) (i := 1) rfl) (by omega) (by omega) (hr3.mono S.below) hs3 hsl) ?_
  rintro vq w hb hrow; replace S := S.new hb hrow; clear hb hrow
  have hql := servsL_len (ds := ds) (os := os) (now := t) (xs := ss)
  have hqc := servs_cnt (os := os) (now := t) (xs := ss) hdc5
  have hle : tot (servsL ds os t ss) ≤ tot out := by
    obtain ⟨D, hD⟩ := hP.most
    have := PlanOk.bound hins (servsL_good (ds := ds) (os := os) (now := t) (xs := ss)) D
    omega
  repeat' (first | refine wl_nil ?_ | refine then_normal ?_ | refine WP_ret ?_ | (refine g_move ?_; refine st_move rfl ?_) | (refine g_assign ?_; refine st_assign rfl ?_) | (refine g_pick ?_; refine st_pickT rfl rfl ?_) | (refine g_b_leq ?_; refine st_val rfl (r_leq rfl rfl) ?_) | (refine g_callV ?_; first | (refine st_callV rfl (r_call1 rfl rfl) (total_spec (S.rdRow (D := fGServing) (i := 3) rfl) (by omega) hqc) ?_; intro w hb; replace S := S.grow hb; clear hb) | (refine st_callV rfl (r_call1 rfl rfl) (total_spec (S.rdRow (D := fGServing) (i := 2) rfl) (by omega) (plan_cnt hv hP)) ?_; intro w hb; replace S := S.grow hb; clear hb)))
  all_goals
    refine end1 rfl rfl ⟨rb ?_, S.below⟩
    first | rfl | exact decide_eq_true hle
end Go.Proofs.YtgdmaadikcnagaaDoor
