import Derived.Test.YtaoicaldhllbfaaI
namespace Go.Proofs.Ytaoicaldhllbfaa
open Go Go.Gx Go.RowKit
set_option linter.unusedVariables false
set_option linter.unusedSimpArgs false

/-- A story: what its thirteen cells hold, and what its five slices read as. -/
structure Stry where
  (d0 d1 d2 d3 s0 s1 s2 s3 : Int)
  (v0 v1 v2 v3 vr : Value)
  (l0 l1 l2 l3 : List Int)
  (reqs : List GArr5Int)
def Stry.enc (s : Stry) : List Value := [.int .i64 s.d0, .int .i64 s.d1, .int .i64 s.d2, .int .i64 s.d3, .int .i64 s.s0, .int .i64 s.s1, .int .i64 s.s2, .int .i64 s.s3, s.v0, s.v1, s.v2, s.v3, s.vr]
def okRt (w : World) (v : Value) (l : List Int) : Prop := Rd (fInt .i64).ty w v l ∧ (∀ x ∈ l, inI x) ∧ l.length ≤ maxLen
def okQ (x : GArr5Int) : Prop := inI x.a0 ∧ inI x.a1 ∧ inI x.a2 ∧ inI x.a3 ∧ inI x.a4
structure Stry.ok (w : World) (s : Stry) : Prop where
  d0 : inI s.d0
  d1 : inI s.d1
  d2 : inI s.d2
  d3 : inI s.d3
  s0 : inI s.s0
  s1 : inI s.s1
  s2 : inI s.s2
  s3 : inI s.s3
  l0 : okRt w s.v0 s.l0
  l1 : okRt w s.v1 s.l1
  l2 : okRt w s.v2 s.l2
  l3 : okRt w s.v3 s.l3
  rq : Rd fGArr5Int.ty w s.vr s.reqs
  rqok : ∀ x ∈ s.reqs, okQ x
  rql : s.reqs.length ≤ maxLen
theorem okRt.mono {w w' : World} {v : Value} {l : List Int} (h : okRt w v l) (hb : Below w.heap.size w w') : okRt w' v l := ⟨h.1.mono hb, h.2⟩
theorem Stry.ok.mono {w w' : World} {s : Stry} (h : s.ok w) (hb : Below w.heap.size w w') : s.ok w' :=
  ⟨h.d0, h.d1, h.d2, h.d3, h.s0, h.s1, h.s2, h.s3, h.l0.mono hb, h.l1.mono hb, h.l2.mono hb, h.l3.mono hb, h.rq.mono hb, h.rqok, h.rql⟩
def Stry.d (s : Stry) (k : Int) : Int := if k = 0 then s.d0 else if k = 1 then s.d1 else if k = 2 then s.d2 else s.d3
/-- What clock k shows at second t. -/
def Stry.shown (s : Stry) (k t : Int) : Int := if k = 0 then shownI s.d0 s.s0 s.l0 t else if k = 1 then shownI s.d1 s.s1 s.l1 t else if k = 2 then shownI s.d2 s.s2 s.l2 t else shownI s.d3 s.s3 s.l3 t

theorem shownS_spec {s : Stry} {k t : Int} {w : World} (hs : s.ok w) (k0 : 0 ≤ k) (k1 : k ≤ 3) (h0 : 0 ≤ t) (h1 : t ≤ 1000000) :
    CallsV Try.prog 27 #[.agg s.enc.toArray, .int .i64 k, .int .i64 t] w (.int .i64 (s.shown k t)) := by
  have S := St.start w
  refine CallsV.mk ?_
  obtain rfl | rfl | rfl | rfl : k = 0 ∨ k = 1 ∨ k = 2 ∨ k = 3 := by omega
  · refine calls_enter Try.func27 rfl Try.ntmps27 rfl ?_
    repeat' (first | refine WP_seq ?_ | refine WP_region ?_ | refine wl_nil ?_ | refine then_normal ?_ | refine WP_ret ?_ | refine WP_draw (by kernel_rfl) (by kernel_rfl) ?_ | (refine ql_nil ?_; intro w hb; replace S := S.grow hb; clear hb) | (refine g_assign ?_; refine st_assign rfl ?_) | (refine gq_move ?_; refine q_move rfl ?_) | (refine gq_assign ?_; refine q_assign rfl ?_) | (refine gq_fieldAddr ?_; refine q_val rfl (fun w' hb => r_fieldAddrL rfl) ?_) | (refine gq_indexAddr ?_; (refine q_val rfl (fun w' hb => r_indexAddrArrL rfl rfl ?_ ?_) ?_; (first | omega | (simp <;> omega)); (first | omega | (simp <;> omega)))) | (refine gq_load ?_; refine q_val rfl (fun w' hb => r_loadVar (i := 0) (S.grow hb) rfl rfl rfl) ?_) | (refine gq_callV ?_; refine q_callV rfl (fun w' hb => r_call4 rfl rfl rfl rfl rfl) (fun w' hb => shown_spec (hs.l0.1.mono (S.grow hb).below) hs.l0.2.2 hs.l0.2.1 hs.d0 hs.s0 h0 h1) ?_) | (refine g_box ?_; refine st_valE rfl (r_box S rfl) ?_; rintro _ w ⟨b, rfl, -, S'⟩; replace S := S'; clear S'))
    exact end1 rfl rfl ⟨rfl, S.below⟩
  · refine calls_enter Try.func27 rfl Try.ntmps27 rfl ?_
    repeat' (first | refine WP_seq ?_ | refine WP_region ?_ | refine wl_nil ?_ | refine then_normal ?_ | refine WP_ret ?_ | refine WP_draw (by kernel_rfl) (by kernel_rfl) ?_ | (refine ql_nil ?_; intro w hb; replace S := S.grow hb; clear hb) | (refine g_assign ?_; refine st_assign rfl ?_) | (refine gq_move ?_; refine q_move rfl ?_) | (refine gq_assign ?_; refine q_assign rfl ?_) | (refine gq_fieldAddr ?_; refine q_val rfl (fun w' hb => r_fieldAddrL rfl) ?_) | (refine gq_indexAddr ?_; (refine q_val rfl (fun w' hb => r_indexAddrArrL rfl rfl ?_ ?_) ?_; (first | omega | (simp <;> omega)); (first | omega | (simp <;> omega)))) | (refine gq_load ?_; refine q_val rfl (fun w' hb => r_loadVar (i := 0) (S.grow hb) rfl rfl rfl) ?_) | (refine gq_callV ?_; refine q_callV rfl (fun w' hb => r_call4 rfl rfl rfl rfl rfl) (fun w' hb => shown_spec (hs.l1.1.mono (S.grow hb).below) hs.l1.2.2 hs.l1.2.1 hs.d1 hs.s1 h0 h1) ?_) | (refine g_box ?_; refine st_valE rfl (r_box S rfl) ?_; rintro _ w ⟨b, rfl, -, S'⟩; replace S := S'; clear S'))
    exact end1 rfl rfl ⟨rfl, S.below⟩
  · refine calls_enter Try.func27 rfl Try.ntmps27 rfl ?_
    repeat' (first | refine WP_seq ?_ | refine WP_region ?_ | refine wl_nil ?_ | refine then_normal ?_ | refine WP_ret ?_ | refine WP_draw (by kernel_rfl) (by kernel_rfl) ?_ | (refine ql_nil ?_; intro w hb; replace S := S.grow hb; clear hb) | (refine g_assign ?_; refine st_assign rfl ?_) | (refine gq_move ?_; refine q_move rfl ?_) | (refine gq_assign ?_; refine q_assign rfl ?_) | (refine gq_fieldAddr ?_; refine q_val rfl (fun w' hb => r_fieldAddrL rfl) ?_) | (refine gq_indexAddr ?_; (refine q_val rfl (fun w' hb => r_indexAddrArrL rfl rfl ?_ ?_) ?_; (first | omega | (simp <;> omega)); (first | omega | (simp <;> omega)))) | (refine gq_load ?_; refine q_val rfl (fun w' hb => r_loadVar (i := 0) (S.grow hb) rfl rfl rfl) ?_) | (refine gq_callV ?_; refine q_callV rfl (fun w' hb => r_call4 rfl rfl rfl rfl rfl) (fun w' hb => shown_spec (hs.l2.1.mono (S.grow hb).below) hs.l2.2.2 hs.l2.2.1 hs.d2 hs.s2 h0 h1) ?_) | (refine g_box ?_; refine st_valE rfl (r_box S rfl) ?_; rintro _ w ⟨b, rfl, -, S'⟩; replace S := S'; clear S'))
    exact end1 rfl rfl ⟨rfl, S.below⟩
  · refine calls_enter Try.func27 rfl Try.ntmps27 rfl ?_
    repeat' (first | refine WP_seq ?_ | refine WP_region ?_ | refine wl_nil ?_ | refine then_normal ?_ | refine WP_ret ?_ | refine WP_draw (by kernel_rfl) (by kernel_rfl) ?_ | (refine ql_nil ?_; intro w hb; replace S := S.grow hb; clear hb) | (refine g_assign ?_; refine st_assign rfl ?_) | (refine gq_move ?_; refine q_move rfl ?_) | (refine gq_assign ?_; refine q_assign rfl ?_) | (refine gq_fieldAddr ?_; refine q_val rfl (fun w' hb => r_fieldAddrL rfl) ?_) | (refine gq_indexAddr ?_; (refine q_val rfl (fun w' hb => r_indexAddrArrL rfl rfl ?_ ?_) ?_; (first | omega | (simp <;> omega)); (first | omega | (simp <;> omega)))) | (refine gq_load ?_; refine q_val rfl (fun w' hb => r_loadVar (i := 0) (S.grow hb) rfl rfl rfl) ?_) | (refine gq_callV ?_; refine q_callV rfl (fun w' hb => r_call4 rfl rfl rfl rfl rfl) (fun w' hb => shown_spec (hs.l3.1.mono (S.grow hb).below) hs.l3.2.2 hs.l3.2.1 hs.d3 hs.s3 h0 h1) ?_) | (refine g_box ?_; refine st_valE rfl (r_box S rfl) ?_; rintro _ w ⟨b, rfl, -, S'⟩; replace S := S'; clear S'))
    exact end1 rfl rfl ⟨rfl, S.below⟩
theorem drift_spec {s : Stry} {k : Int} {w : World} (hs : s.ok w) (k0 : 0 ≤ k) (k1 : k ≤ 3) :
    CallsV Try.prog 26 #[.agg s.enc.toArray, .int .i64 k] w (.int .i64 (pickI (s.d k) 101)) := by
  have S := St.start w
  have q0 := hs.d0
  have q1 := hs.d1
  have q2 := hs.d2
  have q3 := hs.d3
  unfold inI at q0 q1 q2 q3
  refine CallsV.mk ?_
  obtain rfl | rfl | rfl | rfl : k = 0 ∨ k = 1 ∨ k = 2 ∨ k = 3 := by omega
  all_goals refine calls_enter Try.func26 rfl Try.ntmps26 rfl ?_
  repeat' (first | refine WP_seq ?_ | refine WP_region ?_ | refine wl_nil ?_ | refine then_normal ?_ | refine WP_ret ?_ | (refine g_move ?_; refine st_move rfl ?_) | (refine g_assign ?_; refine st_assign rfl ?_) | (refine g_fieldAddr ?_; refine st_val rfl (r_fieldAddrL rfl) ?_) | (refine g_indexAddr ?_; (refine st_val rfl (r_indexAddrArrL rfl rfl ?_ ?_) ?_; (first | omega | (simp <;> omega)); (first | omega | (simp <;> omega)))) | (refine g_load ?_; refine st_val rfl (r_loadVar (i := 0) S rfl rfl rfl) ?_) | (refine g_callV ?_; (refine st_callV rfl (r_call2 rfl rfl rfl) (pickR_spec (by omega) (by omega) (by omega)) ?_; intro w hb; replace S := S.grow hb; clear hb)) | (refine g_box ?_; refine st_valE rfl (r_box S rfl) ?_; rintro _ w ⟨b, rfl, -, S'⟩; replace S := S'; clear S'))
  all_goals (exact end1 rfl rfl ⟨rfl, S.below⟩)
end Go.Proofs.Ytaoicaldhllbfaa
