import Derived.Test.YtcbidfedffegpaaC
namespace Go.Proofs.Ytcbidfedffegpaa
open Go Go.Gx Go.RowKit
set_option linter.unusedVariables false
set_option linter.unusedSimpArgs false
/-- What is served of a queue by so much airtime: what is left of it, and of the queue. -/
def serveQ : Int → List GClaim → Int × List GClaim
  | w, [] => (w, [])
  | w, c :: q => if 0 < w then (if c.Rest ≤ w then serveQ (w - c.Rest) q else (0, { c with Rest := c.Rest - w } :: q)) else (w, c :: q)
def worthA (a : GAppearance) : Int := a.Seconds * a.Weight
def updQ (qs : Nat → List GClaim) (m : Nat) (l : List GClaim) : Nat → List GClaim := fun k => if k = m then l else qs k
/-- The queues after an appearance. -/
def appQ (n i : Int) (a : GAppearance) (qs : Nat → List GClaim) : Nat → List GClaim := fun k =>
  if k = a.Candidate.toNat then (serveQ (worthA a) (qs k)).2
  else if (k : Int) < n ∧ 0 < (serveQ (worthA a) (qs a.Candidate.toNat)).1 then qs k ++ [⟨k, i, (serveQ (worthA a) (qs a.Candidate.toNat)).1, a.At + 604800⟩] else qs k
/-- Objects and headers of the eight queues. -/
def QS (obs : List Ob) (vs : List Value) (qs : Nat → List GClaim) : Prop := obs.length = 8 ∧ vs.length = 8 ∧ ∀ k, k < 8 → ∃ o v, obs[k]? = some o ∧ vs[k]? = some v ∧ Qu fGClaim 39 o v (qs k)
theorem updQ_same (qs : Nat → List GClaim) (m : Nat) : updQ qs m (qs m) = qs := by
  funext k; unfold updQ; split
  · rename_i h; rw [h]
  · rfl
theorem updQ_upd (qs : Nat → List GClaim) (m : Nat) (l l' : List GClaim) : updQ (updQ qs m l) m l' = updQ qs m l' := by
  funext k; unfold updQ; split <;> rfl
theorem QS.get {obs : List Ob} {vs : List Value} {qs : Nat → List GClaim} (h : QS obs vs qs) {k : Nat} (hk : k < 8) : ∃ o v, obs[k]? = some o ∧ vs[k]? = some v ∧ Qu fGClaim 39 o v (qs k) := h.2.2 k hk
theorem QS.set {obs : List Ob} {vs : List Value} {qs : Nat → List GClaim} (h : QS obs vs qs) {m : Nat} (hm : m < 8) {o : Ob} {v : Value} {l : List GClaim} (hq : Qu fGClaim 39 o v l) : QS (obs.set m o) (vs.set m v) (updQ qs m l) := by
  refine ⟨by rw [List.length_set]; exact h.1, by rw [List.length_set]; exact h.2.1, fun k hk => ?_⟩
  unfold updQ
  by_cases e : k = m
  · subst e
    rw [if_pos rfl]
    exact ⟨o, v, by rw [List.getElem?_set_self (by rw [h.1]; exact hm)], by rw [List.getElem?_set_self (by rw [h.2.1]; exact hm)], hq⟩
  · rw [if_neg e, List.getElem?_set_ne (Ne.symm e), List.getElem?_set_ne (Ne.symm e)]
    exact h.2.2 k hk
theorem set_self {α : Type} {l : List α} {i : Nat} {x : α} (h : l[i]? = some x) : l.set i x = l := by
  apply List.ext_getElem?
  intro j
  by_cases e : i = j
  · subst e; rw [List.getElem?_set_self (List.getElem?_eq_some_iff.1 h).1, h]
  · rw [List.getElem?_set_ne e]
theorem QS.setO {obs : List Ob} {vs : List Value} {qs : Nat → List GClaim} (h : QS obs vs qs) {m : Nat} (hm : m < 8) {o : Ob} {v : Value} {l : List GClaim} (hv : vs[m]? = some v) (hq : Qu fGClaim 39 o v l) : QS (obs.set m o) vs (updQ qs m l) := by
  have := h.set hm hq
  rwa [set_self hv] at this
theorem QS.setV {obs : List Ob} {vs : List Value} {qs : Nat → List GClaim} (h : QS obs vs qs) {m : Nat} (hm : m < 8) {o : Ob} {v : Value} {l : List GClaim} (ho : obs[m]? = some o) (hq : Qu fGClaim 39 o v l) : QS obs (vs.set m v) (updQ qs m l) := by
  have := h.set hm hq
  rwa [set_self ho] at this
theorem _root_.Go.Gx.St.two {w0 w : World} {a b : Ob} {os : List Ob} (S : St w0 w (a :: b :: os)) : St w0 w [a, b] := S.sub (List.Sublist.cons_cons _ (List.Sublist.cons_cons _ (List.nil_sublist _)))
/-- The queues when the claims of the first j candidates have been entered. -/
def midQ (i wo : Int) (a : GAppearance) (j : Int) (qs : Nat → List GClaim) : Nat → List GClaim := fun k => if k ≠ a.Candidate.toNat ∧ (k : Int) < j then qs k ++ [⟨k, i, wo, a.At + 604800⟩] else qs k
theorem midQ_zero {i wo : Int} {a : GAppearance} {qs : Nat → List GClaim} : midQ i wo a 0 qs = qs := by
  funext k; unfold midQ; rw [if_neg (by omega)]
set_option maxHeartbeats 4000000 in
theorem appear_run {ba : Nat} {i n : Int} {a : GAppearance} {had : List Int} {vs : List Value} {obs : List Ob} {qs : Nat → List GClaim} {w0 w : World} (S : St w0 w (.var ba 65 (accC had n vs) :: obs)) (hl : had.length = 8) (hq : QS obs vs qs)
    (hn : 2 ≤ n ∧ n ≤ 8) (hc : 0 ≤ a.Candidate ∧ a.Candidate < n) (hs : 1 ≤ a.Seconds ∧ a.Seconds ≤ 3600) (hw : 1 ≤ a.Weight ∧ a.Weight ≤ 10) (ha : 0 ≤ a.At ∧ a.At ≤ 10000000) (hi : 0 ≤ i ∧ i ≤ 1000)
    (hh : ∀ x ∈ had, 0 ≤ x ∧ x ≤ 1000000000) (hr : ∀ k, k < 8 → (qs k).length ≤ 1000 ∧ ∀ c ∈ qs k, 1 ≤ c.Rest ∧ c.Rest ≤ 36000) :
    CallsW Try.prog 41 #[.pointer (some ⟨ba, 0, none⟩), .int .i64 i, .agg a.enc.toArray] w
      (fun v w' => ∃ vs' obs', St w0 w' (.var ba 65 (accC (had.set a.Candidate.toNat (nth had a.Candidate + worthA a)) n vs') :: obs') ∧ QS obs' vs' (appQ n i a qs)) := by
  have hcl : a.Candidate.toNat < 8 := by omega
  have hhad := nth_get (l := had) (i := a.Candidate) (by omega) (by omega)
  have hhb := hh _ (List.mem_of_getElem? hhad)
  have hwb : 1 ≤ worthA a ∧ worthA a ≤ 36000 := by
    unfold worthA
    have h1 := Int.mul_le_mul hs.2 hw.2 (by omega) (by omega)
    have h2 := Int.mul_le_mul hs.1 hw.1 (by omega) (by omega)
    omega
  refine CallsW.mk ?_
  refine calls_enter Try.func41 rfl (by intro _ h; first | exact nomatch h.1 | (obtain ⟨_, h, _⟩ := h; exact nomatch h)) Try.ntmps41 rfl ?_
  have hwm : a.Seconds * a.Weight = worthA a := rfl
  repeat' (first | refine WP_seq ?_ | refine WP_region ?_ | refine wl_nil ?_ | refine then_normal ?_ | (refine g_fieldAddr ?_; refine st_val rfl (r_fieldAddrL rfl) ?_) | (refine g_box ?_; refine st_valE rfl (r_box S rfl) ?_; rintro _ w ⟨b, rfl, -, S'⟩; replace S := S'.front; clear S'))
  replace S : St w0 w (.var ba 65 (accC had n vs) :: .var b 49 a.enc :: obs) := S.perm (List.Perm.swap ..)
  have hld : (accC had n vs)[8]? = some (.int .i64 n) := accC_n hl
  repeat' (first | refine WP_seq ?_ | refine wl_nil ?_ | refine then_normal ?_ | refine WP_drawTail 6 (by kernel_rfl) (by decide +kernel) ?_ | (refine ql_nil ?_; intro w hb; replace S := S.grow hb; clear hb) | (refine g_assign ?_; refine st_assign rfl ?_) | (refine g_b_mul ?_; (refine st_val rfl (r_mulN rfl rfl ?_ ?_) ?_; (first | omega | (simp <;> omega)); (first | omega | (simp <;> omega)))) | (refine g_fieldAddr ?_; refine st_val rfl (r_fieldAddrL rfl) ?_) | (refine g_load ?_; refine st_val rfl (r_loadVar (i := 1) S rfl rfl rfl) ?_) | (refine gq_move ?_; refine q_move rfl ?_) | (refine gq_nilCheck ?_; refine q_val rfl (fun w' hb => r_nilCheck rfl) ?_) | (refine gq_fieldAddr ?_; refine q_val rfl (fun w' hb => r_fieldAddrL rfl) ?_) | (refine gq_load ?_; refine q_val rfl (fun w' hb => r_loadVar (i := 1) (S.grow hb) rfl rfl rfl) ?_))
  refine st_callW rfl (r_call3 rfl rfl rfl rfl) (addH_run S hl hq.2.1 hc.1 (by omega) hhad (by rw [hwm]; omega)) ?_
  rintro _ w S
  rw [hwm] at S
  have hl' : (had.set a.Candidate.toNat (nth had a.Candidate + worthA a)).length = 8 := by rw [List.length_set]; exact hl
  generalize had.set a.Candidate.toNat (nth had a.Candidate + worthA a) = had' at S hl' ⊢
  obtain ⟨ob0, v0, hob0, hv0, hq0⟩ := hq.get hcl
  repeat' (first | refine WP_seq ?_ | refine wl_nil ?_ | refine then_normal ?_ | refine WP_block ?_ | refine WP_draw (by kernel_rfl) (by kernel_rfl) ?_ | (refine ql_nil ?_; intro w hb; replace S := S.grow hb; clear hb) | (refine gq_move ?_; refine q_move rfl ?_) | (refine gq_assign ?_; refine q_assign rfl ?_) | (refine gq_nilCheck ?_; refine q_val rfl (fun w' hb => r_nilCheck rfl) ?_) | (refine gq_fieldAddr ?_; refine q_val rfl (fun w' hb => r_fieldAddrL rfl) ?_) | (refine gq_indexAddr ?_; (refine q_val rfl (fun w' hb => r_indexAddrArrL rfl rfl ?_ ?_) ?_; (first | omega | (simp <;> omega)); (first | omega | (simp <;> omega)))) | (refine gq_load ?_; refine q_val rfl (fun w' hb => r_loadVar (i := 1) (S.grow hb) rfl rfl rfl) ?_))
  refine WP_loop (fun k σ w1 => ∃ (wo : Int) (q : List GClaim) (vs : List Value) (obs : List Ob), Has σ [(0, .pointer (some ⟨ba, 0, none⟩)), (1, .int .i64 i), (5, .pointer (some ⟨b, 0, none⟩)), (6, .int .i64 wo), (7, .pointer (some ⟨ba, 0 + 9 + a.Candidate.toNat * 1, none⟩))] ∧ St w0 w1 (.var ba 65 (accC had' n vs) :: .var b 49 a.enc :: obs) ∧ QS obs vs (updQ qs a.Candidate.toNat q) ∧
      serveQ wo q = serveQ (worthA a) (qs a.Candidate.toNat) ∧ (∀ c ∈ q, 1 ≤ c.Rest ∧ c.Rest ≤ 36000) ∧ q.length ≤ 1000 ∧ 0 ≤ wo ∧ wo ≤ 36000 ∧ k = 2 * q.length + (if 0 < wo then 1 else 0)) (2 * (qs a.Candidate.toNat).length + (if 0 < worthA a then 1 else 0)) ⟨worthA a, qs a.Candidate.toNat, vs, obs, ⟨rfl, rfl, rfl, rfl, rfl, trivial⟩, S, by rw [updQ_same]; exact hq, rfl, (hr _ hcl).2, (hr _ hcl).1, by omega, by omega, rfl⟩ ?_
  clear hld hq hob0 hv0 hq0
  rintro k σ w1 ⟨wo, q, vs, obs, hs', S, hq, hsv, hqr, hql, hw0, hw1, rfl⟩
  refine WP_has hs' ?_
  obtain ⟨o, v, ho, hv, hqu⟩ := hq.get hcl
  have eu : updQ qs a.Candidate.toNat q a.Candidate.toNat = q := by unfold updQ; rw [if_pos rfl]
  rw [eu] at hqu
  obtain ⟨A, c, rfl⟩ := hqu.len
  have hi2 : (.var ba 65 (accC had' n vs) :: .var b 49 a.enc :: obs : List Ob)[2 + a.Candidate.toNat]? = some o := by rw [show 2 + a.Candidate.toNat = a.Candidate.toNat + 1 + 1 by omega, List.getElem?_cons_succ, List.getElem?_cons_succ]; exact ho
  have hld : (accC had' n vs)[0 + 9 + a.Candidate.toNat * 1]? = some (.slice A q.length c) := by
    have := accC_vs (n := n) hl' hv; rw [← this]; congr 1; omega
  by_cases hgo : q ≠ [] ∧ 0 < wo
  · obtain ⟨hne, hwo⟩ := hgo
    obtain ⟨x, q', rfl⟩ := List.exists_cons_of_ne_nil hne
    have hx := hqr x (List.mem_cons_self ..)
    have hlen : (0 : Int) < ((x :: q').length : Int) := by rw [List.length_cons]; omega
    have hnr : (nth (x :: q') 0).Rest = x.Rest := rfl
    have hset : ∀ o' : Ob, (.var ba 65 (accC had' n vs) :: .var b 49 a.enc :: obs : List Ob).set (2 + a.Candidate.toNat) o' = .var ba 65 (accC had' n vs) :: .var b 49 a.enc :: obs.set a.Candidate.toNat o' := fun o' => by
      rw [show 2 + a.Candidate.toNat = a.Candidate.toNat + 1 + 1 by omega]; rfl
    repeat' (first | refine WP_seq ?_ | refine WP_region ?_ | refine wl_nil ?_ | refine then_normal ?_ | refine WP_skip ?_ | refine WP_block ?_ | (refine g_move ?_; refine st_move rfl ?_) | (refine g_assign ?_; refine st_assign rfl ?_) | (refine g_pick ?_; refine st_pickT rfl rfl ?_) | (refine g_b_sub ?_; (refine st_val rfl (r_subN rfl rfl ?_ ?_) ?_; (first | omega | (simp <;> omega)); (first | omega | (simp <;> omega)))) | (refine g_b_gtr ?_; refine st_val rfl (r_gtr rfl rfl) ?_) | (refine g_nilCheck ?_; refine st_val rfl (r_nilCheck rfl) ?_) | (refine g_c_min ?_; refine st_val rfl (r_min2 rfl rfl) ?_) | (refine g_c_len ?_; refine st_val rfl (r_lenSlice rfl) ?_) | (refine g_fieldAddr ?_; refine st_val rfl (r_fieldAddr rfl) ?_) | (refine g_indexAddr ?_; (refine st_val rfl (r_indexAddr (hqu.rd S hi2) rfl rfl ?_ ?_) ?_; (first | omega | (simp <;> omega)); (first | omega | (simp <;> omega)))) | (refine g_load ?_; (refine st_val rfl (r_loadElemF (hqu.rd S hi2) rfl ?_ ?_ rfl) ?_; (first | omega | (simp <;> omega)); (first | omega | (simp <;> omega)))) | (refine st_val rfl (r_loadVar (i := 0) S rfl rfl hld) ?_) | (refine wl_split rfl rfl (fun h => ?_) (fun h => ?_) <;> (fail_if_success (have hh : true = true := h)) <;> (fail_if_success (have hh : false = false := h)) <;> (try simp only [decide_eq_true_eq, decide_eq_false_iff_not, Bool.not_eq_true', Bool.not_eq_false', Int.not_lt, Int.not_le] at h) <;> (try (exfalso; omega))) | (refine WP_cond rfl (fun h => ?_) (fun h => ?_) <;> (fail_if_success (have hh : true = true := h)) <;> (fail_if_success (have hh : false = false := h)) <;> (try simp only [decide_eq_true_eq, decide_eq_false_iff_not, Bool.not_eq_true', Bool.not_eq_false', Int.not_lt, Int.not_le] at h) <;> (try (exfalso; omega))))
    refine g_store ?_
    refine st_skipE rfl (r_storeQ (D := fGClaim) (x' := { x with Rest := x.Rest - min wo x.Rest }) (u := .int .i64 (x.Rest - min wo x.Rest)) (off := 2) (sz := 1) S hi2 hqu rfl rfl rfl rfl (by decide) (fun c hc => by cases List.mem_singleton.1 hc; rfl)) ?_
    rintro w ⟨o', S', hqu'⟩
    rw [hset] at S'
    replace S := S'
    clear S'
    have hq' := hq.setO hcl hv hqu'
    rw [updQ_upd] at hq'
    have ho' : (obs.set a.Candidate.toNat o')[a.Candidate.toNat]? = some o' := List.getElem?_set_self (by rw [hq.1]; exact hcl)
    have hi3 : (.var ba 65 (accC had' n vs) :: .var b 49 a.enc :: obs.set a.Candidate.toNat o' : List Ob)[2 + a.Candidate.toNat]? = some o' := by rw [show 2 + a.Candidate.toNat = a.Candidate.toNat + 1 + 1 by omega, List.getElem?_cons_succ, List.getElem?_cons_succ]; exact ho'
    have hq'' : ∀ c ∈ q', 1 ≤ c.Rest ∧ c.Rest ≤ 36000 := fun c hc => hqr c (List.mem_cons_of_mem _ hc)
    have hnr2 : (nth ({ x with Rest := x.Rest - min wo x.Rest } :: q') 0).Rest = x.Rest - min wo x.Rest := rfl
    have hsx : serveQ wo (x :: q') = if x.Rest ≤ wo then serveQ (wo - x.Rest) q' else (0, { x with Rest := x.Rest - wo } :: q') := by rw [serveQ, if_pos hwo]
    by_cases hfull : x.Rest ≤ wo
    · have hm : min wo x.Rest = x.Rest := by omega
      have hz : x.Rest - min wo x.Rest = 0 := by omega
      repeat' (first | refine WP_seq ?_ | refine WP_region ?_ | refine wl_nil ?_ | refine then_normal ?_ | (refine g_move ?_; refine st_move rfl ?_) | (refine g_b_eql ?_; refine st_val rfl (r_eql rfl rfl) ?_) | (refine g_nilCheck ?_; refine st_val rfl (r_nilCheck rfl) ?_) | (refine g_fieldAddr ?_; refine st_val rfl (r_fieldAddr rfl) ?_) | (refine g_indexAddr ?_; (refine st_val rfl (r_indexAddr (hqu'.rd S hi3) rfl rfl ?_ ?_) ?_; (first | omega | (simp <;> omega)); (first | omega | (simp <;> omega)))) | (refine g_load ?_; (refine st_val rfl (r_loadElemF (hqu'.rd S hi3) rfl ?_ ?_ rfl) ?_; (first | omega | (simp <;> omega)); (first | omega | (simp <;> omega)))) | (refine st_val rfl (r_loadVar (i := 0) S rfl rfl hld) ?_) | (refine WP_cond rfl (fun h => ?_) (fun h => ?_) <;> (fail_if_success (have hh : true = true := h)) <;> (fail_if_success (have hh : false = false := h)) <;> (try simp only [decide_eq_true_eq, decide_eq_false_iff_not, Bool.not_eq_true', Bool.not_eq_false', Int.not_lt, Int.not_le] at h) <;> (try (exfalso; omega))))
      refine st_valE rfl (r_sliceQ hqu' S hi3 rfl rfl) ?_
      rintro v' w ⟨rfl, hqu2⟩
      obtain ⟨A2, c2, rfl⟩ := hqu2.len
      repeat' ((refine g_nilCheck ?_; refine st_val rfl (r_nilCheck rfl) ?_))
      refine g_store ?_
      refine st_skipE rfl (r_storeVar (i := 0) (o := 0 + 9 + a.Candidate.toNat * 1) (size := 1) (v := .slice A2 q'.length c2) S rfl rfl rfl rfl (by rw [accC_len hl' hq.2.1]; omega) (fun c hc => by cases List.mem_singleton.1 hc; rfl)) ?_
      intro w S'
      have e : splice (accC had' n vs) (0 + 9 + a.Candidate.toNat * 1) [.slice A2 q'.length c2] = accC had' n (vs.set a.Candidate.toNat (.slice A2 q'.length c2)) := by
        rw [← accC_setVs hl' (by rw [hq.2.1]; exact hcl)]; congr 1; omega
      replace S : St w0 w (.var ba 65 (accC had' n (vs.set a.Candidate.toNat (.slice A2 q'.length c2))) :: .var b 49 a.enc :: obs.set a.Candidate.toNat o') := by rw [← e]; exact S'
      clear S'
      have hq2 := hq'.setV hcl ho' hqu2
      rw [updQ_upd] at hq2
      repeat' (first | refine wl_nil ?_ | refine then_normal ?_ | refine inB_normal ?_)
      refine ⟨⟨_, ?_, wo - min wo x.Rest, q', _, _, ⟨rfl, rfl, rfl, rfl, rfl, trivial⟩, S, hq2, ?_, hq'', ?_, by omega, by omega, rfl⟩⟩
      · rw [List.length_cons, if_pos hwo]; split <;> omega
      · rw [← hsv, hsx, if_pos hfull, hm]
      · rw [List.length_cons] at hql; omega
    · have hm : min wo x.Rest = wo := by omega
      repeat' (first | refine WP_seq ?_ | refine WP_region ?_ | refine wl_nil ?_ | refine then_normal ?_ | refine inB_normal ?_ | refine WP_skip ?_ | (refine g_move ?_; refine st_move rfl ?_) | (refine g_b_eql ?_; refine st_val rfl (r_eql rfl rfl) ?_) | (refine g_nilCheck ?_; refine st_val rfl (r_nilCheck rfl) ?_) | (refine g_fieldAddr ?_; refine st_val rfl (r_fieldAddr rfl) ?_) | (refine g_indexAddr ?_; (refine st_val rfl (r_indexAddr (hqu'.rd S hi3) rfl rfl ?_ ?_) ?_; (first | omega | (simp <;> omega)); (first | omega | (simp <;> omega)))) | (refine g_load ?_; (refine st_val rfl (r_loadElemF (hqu'.rd S hi3) rfl ?_ ?_ rfl) ?_; (first | omega | (simp <;> omega)); (first | omega | (simp <;> omega)))) | (refine st_val rfl (r_loadVar (i := 0) S rfl rfl hld) ?_) | (refine WP_cond rfl (fun h => ?_) (fun h => ?_) <;> (fail_if_success (have hh : true = true := h)) <;> (fail_if_success (have hh : false = false := h)) <;> (try simp only [decide_eq_true_eq, decide_eq_false_iff_not, Bool.not_eq_true', Bool.not_eq_false', Int.not_lt, Int.not_le] at h) <;> (try (exfalso; omega))))
      refine ⟨⟨_, ?_, wo - min wo x.Rest, _, _, _, ⟨rfl, rfl, rfl, rfl, rfl, trivial⟩, S, hq', ?_, ?_, hql, by omega, by omega, rfl⟩⟩
      · rw [List.length_cons, if_pos hwo, List.length_cons, if_neg (by omega)]; omega
      · rw [← hsv, hsx, if_neg hfull, hm, serveQ, if_neg (by omega)]; congr 1; omega
      · intro c hc
        rcases List.mem_cons.1 hc with rfl | hc
        · show 1 ≤ x.Rest - min wo x.Rest ∧ _; show 1 ≤ x.Rest - min wo x.Rest ∧ x.Rest - min wo x.Rest ≤ 36000; omega
        · exact hq'' c hc
  · have hgo' : (q.length : Int) ≤ 0 ∨ wo ≤ 0 := by
      by_cases h : 0 < wo
      · left; by_cases h2 : q = []
        · subst h2; simp
        · exact absurd ⟨h2, h⟩ hgo
      · right; omega
    have hres : serveQ (worthA a) (qs a.Candidate.toNat) = (wo, q) := by
      rw [← hsv]
      cases q with
      | nil => rfl
      | cons x q' => rw [serveQ, if_neg (by rw [List.length_cons] at hgo'; omega)]
    have hend : wo = 0 → updQ qs a.Candidate.toNat q = appQ n i a qs := fun h0 => by
      funext k
      unfold updQ appQ
      split
      · rename_i h; rw [h, hres]
      · rw [hres, if_neg (by rw [h0]; simp)]
    have hldn : (accC had' n vs)[0 + 8]? = some (.int .i64 n) := accC_n hl'
    repeat' (first | refine WP_seq ?_ | refine WP_region ?_ | refine wl_nil ?_ | refine then_normal ?_ | refine then_exit ?_ | refine inB_here ?_ | refine then_ret ?_ | refine WP_ret ?_ | refine WP_skip ?_ | refine WP_exit ?_ | refine WP_block ?_ | refine WP_condF rfl ?_ | (refine g_guard ?_; refine st_off rfl ?_) | (refine g_move ?_; refine st_move rfl ?_) | (refine g_pick ?_; first | refine st_pickT rfl rfl ?_ | refine st_pickF rfl rfl ?_) | (refine g_b_eql ?_; refine st_val rfl (r_eql rfl rfl) ?_) | (refine g_b_gtr ?_; refine st_val rfl (r_gtr rfl rfl) ?_) | (refine g_nilCheck ?_; refine st_val rfl (r_nilCheck rfl) ?_) | (refine g_c_len ?_; refine st_val rfl (r_lenSlice rfl) ?_) | (refine g_fieldAddr ?_; refine st_val rfl (r_fieldAddrL rfl) ?_) | (refine st_val rfl (r_loadVar (i := 0) S rfl rfl hld) ?_) | (refine st_val rfl (r_loadVar (i := 0) S rfl rfl hldn) ?_) | (refine wl_split rfl rfl (fun h => ?_) (fun h => ?_) <;> (fail_if_success (have hh : true = true := h)) <;> (fail_if_success (have hh : false = false := h)) <;> (try simp only [decide_eq_true_eq, decide_eq_false_iff_not, Bool.not_eq_true', Bool.not_eq_false', Int.not_lt, Int.not_le] at h) <;> (try (exfalso; omega))) | (refine WP_cond rfl (fun h => ?_) (fun h => ?_) <;> (fail_if_success (have hh : true = true := h)) <;> (fail_if_success (have hh : false = false := h)) <;> (try simp only [decide_eq_true_eq, decide_eq_false_iff_not, Bool.not_eq_true', Bool.not_eq_false', Int.not_lt, Int.not_le] at h) <;> (try (exfalso; omega))))
    · exact end0r rfl ⟨_, rfl, vs, obs, S.sub (List.Sublist.cons_cons _ (List.sublist_cons_self _ _)), by rw [← hend (by omega)]; exact hq⟩
    · exact end0r rfl ⟨_, rfl, vs, obs, S.sub (List.Sublist.cons_cons _ (List.sublist_cons_self _ _)), by rw [← hend (by omega)]; exact hq⟩
    refine WP_loop (fun k σ w1 => ∃ (j : Int) (vs : List Value) (obs : List Ob), Has σ [(0, .pointer (some ⟨ba, 0, none⟩)), (1, .int .i64 i), (5, .pointer (some ⟨b, 0, none⟩)), (6, .int .i64 wo), (76, .int .i64 n), (77, .int .i64 j)] ∧ St w0 w1 (.var ba 65 (accC had' n vs) :: .var b 49 a.enc :: obs) ∧ QS obs vs (midQ i wo a j (updQ qs a.Candidate.toNat q)) ∧ 0 ≤ j ∧ j ≤ n ∧ k = n.toNat - j.toNat) n.toNat
      ⟨0, vs, obs, ⟨rfl, rfl, rfl, rfl, rfl, rfl, trivial⟩, S, by rw [midQ_zero]; exact hq, by omega, by omega, by omega⟩ ?_
    clear S hq ho hv hqu hi2 hld hldn hs' σ
    rintro k σ w1 ⟨j, vs, obs, hs', S, hq, hj0, hj1, rfl⟩
    refine WP_has hs' ?_
    by_cases hj : j < n
    · by_cases hjc : j = a.Candidate
      · repeat' (first | refine WP_seq ?_ | refine WP_region ?_ | refine wl_nil ?_ | refine then_normal ?_ | refine inB_normal ?_ | refine WP_skip ?_ | refine WP_block ?_ | (refine g_move ?_; refine st_move rfl ?_) | (refine g_assign ?_; refine st_assign rfl ?_) | (refine g_b_add ?_; (refine st_val rfl (r_addN rfl rfl ?_ ?_) ?_; (first | omega | (simp <;> omega)); (first | omega | (simp <;> omega)))) | (refine g_b_neq ?_; refine st_val rfl (r_neq rfl rfl) ?_) | (refine g_b_lss ?_; refine st_val rfl (r_lss rfl rfl) ?_) | (refine g_fieldAddr ?_; refine st_val rfl (r_fieldAddrL rfl) ?_) | (refine g_load ?_; refine st_val rfl (r_loadVar (i := 1) S rfl rfl rfl) ?_) | (refine WP_cond rfl (fun h => ?_) (fun h => ?_) <;> (fail_if_success (have hh : true = true := h)) <;> (fail_if_success (have hh : false = false := h)) <;> (try simp only [decide_eq_true_eq, decide_eq_false_iff_not, Bool.not_eq_true', Bool.not_eq_false', Int.not_lt, Int.not_le] at h) <;> (try (exfalso; omega))))
        refine ⟨⟨_, ?_, j + 1, vs, obs, ⟨rfl, rfl, rfl, rfl, rfl, rfl, trivial⟩, S, ?_, by omega, by omega, rfl⟩⟩
        · omega
        · suffices e : midQ i wo a (j + 1) (updQ qs a.Candidate.toNat q) = midQ i wo a j (updQ qs a.Candidate.toNat q) by rw [e]; exact hq
          funext k
          unfold midQ
          by_cases h1 : k ≠ a.Candidate.toNat ∧ (k : Int) < j
          · rw [if_pos h1, if_pos (by omega)]
          · rw [if_neg h1, if_neg (by omega)]
      · have hj8 : j.toNat < 8 := by omega
        obtain ⟨o, v, ho, hv, hqu⟩ := hq.get hj8
        have hld : (accC had' n vs)[0 + 9 + j.toNat * 1]? = some v := by
          have := accC_vs (n := n) hl' hv; rw [← this]; congr 1; omega
        repeat' (first | refine WP_seq ?_ | refine WP_region ?_ | refine wl_nil ?_ | refine then_normal ?_ | refine WP_skip ?_ | refine WP_block ?_ | (refine WP_drawJ (fun w' => St w0 w' [.var ba 65 (accC had' n vs), .var b 49 a.enc]) [0,1,2,3,4,5,6,7,8,9,10,11,12,13,14,17,18] [15,16] [19,20] (by kernel_rfl) (by decide) (by decide +kernel) (fun w' hb => (S.grow hb).two) ?_; intro w hb; replace S := S.grow hb; clear hb) | refine jq_nil ?_ | (refine g_move ?_; refine st_move rfl ?_) | (refine g_assign ?_; refine st_assign rfl ?_) | (refine g_b_neq ?_; refine st_val rfl (r_neq rfl rfl) ?_) | (refine g_b_lss ?_; refine st_val rfl (r_lss rfl rfl) ?_) | (refine g_fieldAddr ?_; refine st_val rfl (r_fieldAddrL rfl) ?_) | (refine g_load ?_; refine st_val rfl (r_loadVar (i := 1) S rfl rfl rfl) ?_) | (refine gj_move ?_; refine jq_val rfl (fun w' hJ => ⟨rfl⟩) ?_) | (refine gj_assign ?_; refine jq_val rfl (fun w' hJ => ⟨rfl⟩) ?_) | (refine gj_b_add ?_; (refine jq_val rfl (fun w' hJ => r_addN rfl rfl ?_ ?_) ?_; (first | omega | (simp <;> omega)); (first | omega | (simp <;> omega)))) | (refine gj_build ?_; refine jq_val rfl (fun w' hJ => bd39_0_1_2_3 rfl rfl rfl rfl) ?_) | (refine gj_nilCheck ?_; refine jq_val rfl (fun w' hJ => r_nilCheck rfl) ?_) | (refine gj_fieldAddr ?_; refine jq_val rfl (fun w' hJ => r_fieldAddrL rfl) ?_) | (refine gj_indexAddr ?_; (refine jq_val rfl (fun w' hJ => r_indexAddrArrL rfl rfl ?_ ?_) ?_; (first | omega | (simp <;> omega)); (first | omega | (simp <;> omega)))) | (refine gj_load ?_; refine jq_val rfl (fun w' hJ => r_loadVar (i := 1) hJ rfl rfl rfl) ?_) | (refine jq_val rfl (fun w' hJ => r_loadVar (i := 0) hJ rfl rfl hld) ?_) | (refine WP_cond rfl (fun h => ?_) (fun h => ?_) <;> (fail_if_success (have hh : true = true := h)) <;> (fail_if_success (have hh : false = false := h)) <;> (try simp only [decide_eq_true_eq, decide_eq_false_iff_not, Bool.not_eq_true', Bool.not_eq_false', Int.not_lt, Int.not_le] at h) <;> (try (exfalso; omega))))
        refine wj_valE rfl (r_litF (D := fGClaim) [⟨j, i, wo, a.At + 604800⟩] (fun x => .agg x.enc.toArray) S rfl rfl (fun _ => rfl) rfl (by decide) (by decide)) ?_
        rintro _ w ⟨bl, rfl, -, -, S'⟩
        refine ⟨(S'.sub (List.sublist_append_left _ _)).two, ?_⟩
        replace S := S'.front
        clear S'
        have em : midQ i wo a j (updQ qs a.Candidate.toNat q) j.toNat = qs j.toNat := by
          unfold midQ updQ; rw [if_neg (by omega), if_neg (by omega)]
        rw [em] at hqu
        have hql2 := (hr _ hj8).1
        generalize hrow : (rowOb fGClaim 39 (.slice (some ⟨bl, 0, none⟩) 1 1) [(⟨j, i, wo, a.At + 604800⟩ : GClaim)]) = row at S
        have hi4 : (row :: .var ba 65 (accC had' n vs) :: .var b 49 a.enc :: obs : List Ob)[3 + j.toNat]? = some o := by
          rw [show 3 + j.toNat = j.toNat + 1 + 1 + 1 by omega, List.getElem?_cons_succ, List.getElem?_cons_succ, List.getElem?_cons_succ]; exact ho
        have hset : ∀ o' : Ob, (row :: .var ba 65 (accC had' n vs) :: .var b 49 a.enc :: obs : List Ob).set (3 + j.toNat) o' = row :: .var ba 65 (accC had' n vs) :: .var b 49 a.enc :: obs.set j.toNat o' := fun o' => by
          rw [show 3 + j.toNat = j.toNat + 1 + 1 + 1 by omega]; rfl
        have hrd : Rd fGClaim.ty w (.slice (some ⟨bl, 0, none⟩) 1 1) [(⟨j, i, wo, a.At + 604800⟩ : GClaim)] := by subst hrow; exact S.rdRow (D := fGClaim) (i := 0) rfl
        refine wj_valE rfl (r_appendQ (D := fGClaim) S hi4 hqu hrd rfl rfl rfl (by decide) (by intro u hu; simp [fGClaim, GClaim.enc] at hu; rcases hu with rfl | rfl | rfl | rfl <;> rfl) (by omega) (by unfold maxLen; omega)) ?_
        rintro v' w ⟨o', S', hqn⟩
        rw [hset] at S'
        replace S := S'.tail
        clear S'
        refine ⟨S.two, wj_nil ?_⟩
        obtain ⟨A2, c2, rfl⟩ := hqn.len
        repeat' ((refine g_indexAddr ?_; (refine st_val rfl (r_indexAddrArrL rfl rfl ?_ ?_) ?_; (first | omega | (simp <;> omega)); (first | omega | (simp <;> omega)))))
        refine g_store ?_
        refine st_skipE rfl (r_storeVar (i := 0) (o := 0 + 9 + j.toNat * 1) (size := 1) (v := .slice A2 (qs j.toNat ++ [(⟨j, i, wo, a.At + 604800⟩ : GClaim)]).length c2) S rfl rfl rfl rfl (by rw [accC_len hl' hq.2.1]; omega) (fun c hc => by cases List.mem_singleton.1 hc; rfl)) ?_
        intro w S'
        have e : splice (accC had' n vs) (0 + 9 + j.toNat * 1) [.slice A2 (qs j.toNat ++ [(⟨j, i, wo, a.At + 604800⟩ : GClaim)]).length c2] = accC had' n (vs.set j.toNat (.slice A2 (qs j.toNat ++ [(⟨j, i, wo, a.At + 604800⟩ : GClaim)]).length c2)) := by
          rw [← accC_setVs hl' (by rw [hq.2.1]; exact hj8)]; congr 1; omega
        replace S : St w0 w (.var ba 65 (accC had' n (vs.set j.toNat (.slice A2 (qs j.toNat ++ [(⟨j, i, wo, a.At + 604800⟩ : GClaim)]).length c2))) :: .var b 49 a.enc :: obs.set j.toNat o') := by rw [← e]; exact S'
        clear S'
        have hq2 := hq.set hj8 hqn
        repeat' (first | refine WP_region ?_ | refine wl_nil ?_ | refine then_normal ?_ | refine inB_normal ?_ | (refine g_move ?_; refine st_move rfl ?_) | (refine g_b_add ?_; (refine st_val rfl (r_addN rfl rfl ?_ ?_) ?_; (first | omega | (simp <;> omega)); (first | omega | (simp <;> omega)))))
        refine ⟨⟨_, ?_, j + 1, _, _, ⟨rfl, rfl, rfl, rfl, rfl, rfl, trivial⟩, S, ?_, by omega, by omega, rfl⟩⟩
        · omega
        · suffices e : midQ i wo a (j + 1) (updQ qs a.Candidate.toNat q) = updQ (midQ i wo a j (updQ qs a.Candidate.toNat q)) j.toNat (qs j.toNat ++ [⟨j, i, wo, a.At + 604800⟩]) by rw [e]; exact hq2
          funext k
          unfold midQ updQ
          dsimp only
          by_cases hk : k = j.toNat
          · subst hk; rw [if_pos rfl, if_pos (by omega), if_neg (by omega), Int.toNat_of_nonneg hj0]
          · rw [if_neg (c := k = j.toNat) hk]
            by_cases h1 : k ≠ a.Candidate.toNat ∧ (k : Int) < j
            · rw [if_pos h1, if_pos (by omega)]
            · rw [if_neg h1, if_neg (by omega)]
    · repeat' (first | refine WP_seq ?_ | refine WP_region ?_ | refine wl_nil ?_ | refine then_normal ?_ | (refine g_b_lss ?_; refine st_val rfl (r_lss rfl rfl) ?_))
      refine WP_cond rfl (fun h => absurd (of_decide_eq_true h) hj) (fun h => ?_)
      refine WP_exit ?_
      refine then_exit ?_
      refine then_exit ?_
      refine inB_here ?_
      refine end0 rfl ⟨_, rfl, vs, obs, S.sub (List.Sublist.cons_cons _ (List.sublist_cons_self _ _)), ?_⟩
      suffices e : appQ n i a qs = midQ i wo a j (updQ qs a.Candidate.toNat q) by rw [e]; exact hq
      have hjn : j = n := by omega
      subst hjn
      funext k
      unfold midQ updQ appQ
      rw [hres]
      by_cases hk : k = a.Candidate.toNat
      · subst hk; rw [if_pos rfl, if_neg (by omega), if_pos rfl, hres]
      · rw [if_neg (c := k = a.Candidate.toNat) hk, if_neg (c := k = a.Candidate.toNat) hk]
        by_cases h1 : (k : Int) < j
        · rw [if_pos ⟨h1, by omega⟩, if_pos ⟨hk, h1⟩]
        · rw [if_neg (fun h => h1 h.1), if_neg (fun h => h1 h.2)]
end Go.Proofs.Ytcbidfedffegpaa
