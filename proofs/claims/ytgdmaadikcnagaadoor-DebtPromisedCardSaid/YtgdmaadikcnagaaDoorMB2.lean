/- Merged texts: DL, DM, DO, DP, DQ, DR, DS, DT, EA, EB, EG, EH. -/
import Derived.Test.YtgdmaadikcnagaaDoorMB1
import Derived.Test.YtgdmaadikcnagaaDoorMC2
/- One deed: what becomes of the books. -/
namespace Go.Proofs.YtgdmaadikcnagaaDoor
open Go Go.Gx Go.RowKit
set_option linter.unusedVariables false
set_option linter.unusedSimpArgs false

/-- No debt has more than fifty. -/
def Cnt50 (l : List GDebt) : Prop := ∀ d ∈ l, d.Count ≤ 50
theorem cnt50_put {d : GDebt} {l : List GDebt} (h : Cnt50 l) (hd : d.Count ≤ 50) : Cnt50 (putD d l) := fun x hx => by
  rcases putD_mem.1 hx with rfl | hx
  · exact hd
  · exact h x hx
theorem cnt50_less {k n : Int} : ∀ {l : List GDebt}, Cnt50 l → 0 ≤ n → Cnt50 (lessD k n l)
  | [], h, _ => h
  | a :: r, h, hn => by
    have ha := h a (List.mem_cons_self ..)
    have hr : Cnt50 r := fun x hx => h x (List.mem_cons_of_mem _ hx)
    unfold lessD; split
    · split
      · exact hr
      · intro x hx
        rcases List.mem_cons.1 hx with rfl | hx
        · show a.Count - n ≤ 50; omega
        · exact hr x hx
    · intro x hx
      rcases List.mem_cons.1 hx with rfl | hx
      · exact ha
      · exact cnt50_less hr hn x hx
theorem doB_cnt50 {b c : Bk} {x : GDeed} (hb : Cnt50 b.op) (h : doB b x = some c) : Cnt50 c.op := by
  obtain ⟨_, _, _, _, _, h1, h2⟩ := doB_sums h
  unfold doB at h
  (repeat' split at h) <;> first | cases h | skip
  · exact cnt50_put hb h2
  · exact cnt50_less hb (by omega)
  · exact cnt50_put (cnt50_less hb (by omega)) h2
  · exact cnt50_less hb (by omega)
theorem step_kind {s s' : Bk} {last : Int} {x : GDeed} {cb : Bool} (hl : 0 ≤ last) (hd : doB s x = if inBO x = false then none else if cb = true then some s' else none) :
    (okIn last x ∧ cb = true → stepB (s, last) x = some (s', x.At)) ∧ (¬ (okIn last x ∧ cb = true) → stepB (s, last) x = none) := by
  constructor
  · rintro ⟨⟨h1, h2, h3⟩, hc⟩
    rw [betw_iff] at h2
    have hin : inBO x = true := by
      unfold inBO; rw [h1, h3, betw_iff.2 ⟨by omega, h2.2⟩]; rfl
    unfold stepB
    rw [if_pos h2.1, hd, hin, hc]; rfl
  · intro h
    unfold stepB
    by_cases hla : last ≤ x.At
    · rw [if_pos hla, hd]
      by_cases hin : inBO x = true
      · have hin' := hin
        unfold inBO at hin'
        simp only [Bool.and_eq_true] at hin'
        obtain ⟨⟨i1, i2⟩, i3⟩ := hin'
        rw [betw_iff] at i2
        have hc : ¬ cb = true := fun hc => h ⟨⟨i1, betw_iff.2 ⟨hla, i2.2⟩, i3⟩, hc⟩
        rw [hin, if_neg (by decide), if_neg hc]; rfl
      · have : inBO x = false := by simpa using hin
        rw [this]; rfl
    · rw [if_neg hla]
section
variable {w0 w : World} {bb b1 b2 : Nat} {last : Int} {s : Bk} {x : GDeed} {ex : List Ob}
/-- What a deed comes to. -/
def WrongP (w0 : World) (bb b1 b2 : Nat) (last : Int) (s : Bk) (x : GDeed) (ex : List Ob) (v : Value) (w' : World) : Prop := match stepB (s, last) x with
  | none => v = .bool true ∧ St w0 w' (BKs bb b1 b2 last s ex)
  | some t => v = .bool false ∧ St w0 w' (BKs bb b1 b2 t.2 t.1 ex)
theorem wrongP_of {s' : Bk} {cb : Bool} (hl : 0 ≤ last) (hd : doB s x = if inBO x = false then none else if cb = true then some s' else none)
    (h : CallsW Tryd.prog 33 #[.pointer (some ⟨bb, 0, none⟩), .agg x.enc.toArray] w (fun v w' => (okIn last x ∧ cb = true ∧ v = .bool false ∧ St w0 w' (BKs bb b1 b2 x.At s' ex)) ∨ (¬ (okIn last x ∧ cb = true) ∧ v = .bool true ∧ St w0 w' (BKs bb b1 b2 last s ex)))) :
    CallsW Tryd.prog 33 #[.pointer (some ⟨bb, 0, none⟩), .agg x.enc.toArray] w (WrongP w0 bb b1 b2 last s x ex) := by
  have hk := step_kind (last := last) hl hd
  refine ⟨Calls.mono h.out fun e w' ⟨v, he, hv⟩ => ⟨v, he, ?_⟩⟩
  unfold WrongP
  rcases hv with ⟨h1, h2, h3, h4⟩ | ⟨h1, h2, h3⟩
  · rw [hk.1 ⟨h1, h2⟩]; exact ⟨h3, h4⟩
  · rw [hk.2 h1]; exact ⟨h2, h3⟩
theorem wrong_run (S : St w0 w (BKs bb b1 b2 last s ex)) (hK : KindsAt w0) (hl : 0 ≤ last) (hok : BkOk s) (hc50 : Cnt50 s.op) (hsm : SmOk s.sums) :
    CallsW Tryd.prog 33 #[.pointer (some ⟨bb, 0, none⟩), .agg x.enc.toArray] w (WrongP w0 bb b1 b2 last s x ex) := by
  have hcnt : okIn last x → 1 ≤ x.Count ∧ x.Count ≤ 50 := fun h => betw_iff.1 h.1
  have hat : okIn last x → -1000000000 ≤ x.At ∧ x.At ≤ 1000000000 := fun h => by have := betw_iff.1 h.2.1; omega
  by_cases k1 : x.Kind = 1
  · refine wrongP_of (s' := oweB s x) (cb := canOwe s x) hl (by unfold doB; rw [if_pos k1]) ?_
    refine wrong_go S hK (fc := 128) (fd := 129) (by unfold kindsM; rw [if_pos k1]) (fun w' hB hin => owe_can hB (hat hin)) fun hcb hin ex' w1 S1 => ?_
    simp only [canOwe, Bool.and_eq_true] at hcb
    exact owe_do S1 (fresh_ne hcb.1.2 hok) (hcnt hin) hsm
  by_cases k2 : x.Kind = 2
  · refine wrongP_of (s' := serveB s x) (cb := canServe s x) hl (by unfold doB; rw [if_neg k1, if_pos k2]) ?_
    refine wrong_go S hK (fc := 131) (fd := 133) (by unfold kindsM; rw [if_neg k1, if_pos k2]) (fun w' hB hin => serve_can hB) fun hcb hin ex' w1 S1 => ?_
    simp only [canServe, Bool.and_eq_true] at hcb
    obtain ⟨d, h1, h2, h3⟩ := has_get hcb.1.2
    have h4 := hc50 d (getD_mem h1).1
    exact serve_do S1 hok.srt h1 (by omega) (hcnt hin) hsm
  by_cases k3 : x.Kind = 3
  · refine wrongP_of (s' := moveB s x (dueB s x)) (cb := canMove s x) hl (by unfold doB; rw [if_neg k1, if_neg k2, if_pos k3]) ?_
    refine wrong_go S hK (fc := 135) (fd := 136) (by unfold kindsM; rw [if_neg k1, if_neg k2, if_pos k3]) (fun w' hB hin => move_can hB) fun hcb hin ex' w1 S1 => ?_
    simp only [canMove, Bool.and_eq_true] at hcb
    obtain ⟨d, h1, h2, h3⟩ := has_get hcb.1.1.1.1
    have h4 := hc50 d (getD_mem h1).1
    exact move_do S1 hok.srt h1 (by omega) (fresh_ne hcb.1.1.2 hok) (hcnt hin) hsm
  by_cases k4 : x.Kind = 4
  · refine wrongP_of (s' := payB s x) (cb := canPay s x) hl (by unfold doB; rw [if_neg k1, if_neg k2, if_neg k3, if_pos k4]) ?_
    refine wrong_go S hK (fc := 137) (fd := 138) (by unfold kindsM; rw [if_neg k1, if_neg k2, if_neg k3, if_pos k4]) (fun w' hB hin => pay_can hB) fun hcb hin ex' w1 S1 => ?_
    simp only [canPay, Bool.and_eq_true] at hcb
    obtain ⟨d, h1, h2, h3⟩ := has_get hcb.2
    have h4 := hc50 d (getD_mem h1).1
    exact pay_do S1 hok.srt h1 (by omega) (hcnt hin) hsm
  · have hnone : stepB (s, last) x = none := by
      unfold stepB doB
      rw [if_neg k1, if_neg k2, if_neg k3, if_neg k4]
      (repeat' split) <;> rfl
    refine ⟨Calls.mono (wrong_none S hK (by unfold kindsM; rw [if_neg k1, if_neg k2, if_neg k3, if_neg k4])).out fun e w' ⟨v, he, hv⟩ => ⟨v, he, ?_⟩⟩
    unfold WrongP
    rw [hnone]; exact hv
/-- The books after some deeds. -/
structure BkRun (s : Bk) (n : Int) : Prop where
  ok : BkOk s
  c50 : Cnt50 s.op
  sm : 0 ≤ s.sums.Owed ∧ s.sums.Owed ≤ 50 * n ∧ 0 ≤ s.sums.Served ∧ s.sums.Served ≤ 50 * n ∧ 0 ≤ s.sums.Moved ∧ s.sums.Moved ≤ 50 * n ∧ 0 ≤ s.sums.Paid ∧ s.sums.Paid ≤ 50 * n
  len : (s.op.length : Int) ≤ n
theorem putD_len {d : GDebt} : ∀ {l : List GDebt}, (putD d l).length = l.length + 1
  | [] => rfl
  | a :: r => by unfold putD; split <;> simp [putD_len]
theorem lessD_len {k n : Int} : ∀ {l : List GDebt}, (lessD k n l).length ≤ l.length
  | [] => Nat.le_refl _
  | a :: r => by
    unfold lessD; split
    · split <;> simp
    · have := lessD_len (k := k) (n := n) (l := r)
      simp; omega
theorem BkRun.start : BkRun bk0 0 := ⟨bk0_ok, fun _ h => (by cases h), by simp [bk0], by simp [bk0]⟩
theorem BkRun.next {s c : Bk} {n : Int} {x : GDeed} (h : BkRun s n) (hd : doB s x = some c) : BkRun c (n + 1) := by
  obtain ⟨hk, s1, s2, s3, s4, c1, c2⟩ := doB_sums hd
  obtain ⟨m1, m2, m3, m4, m5, m6, m7, m8⟩ := h.sm
  refine ⟨doB_ok h.ok hd, doB_cnt50 h.c50 hd, ?_, ?_⟩
  · rw [s1, s2, s3, s4]
    (repeat' split) <;> omega
  · have hl := h.len
    unfold doB at hd
    (repeat' split at hd) <;> first | cases hd | skip
    · show ((putD _ s.op).length : Int) ≤ _; rw [putD_len]; omega
    · have := lessD_len (k := x.ID) (n := x.Count) (l := s.op)
      show ((lessD _ _ s.op).length : Int) ≤ _; omega
    · have := lessD_len (k := x.ID) (n := x.Count) (l := s.op)
      show ((putD _ (lessD _ _ s.op)).length : Int) ≤ _; rw [putD_len]; omega
    · have := lessD_len (k := x.ID) (n := x.Count) (l := s.op)
      show ((lessD _ _ s.op).length : Int) ≤ _; omega
theorem BkRun.smOk {s : Bk} {n : Int} (h : BkRun s n) (hn : n ≤ 1000) : SmOk s.sums := by
  obtain ⟨m1, m2, m3, m4, m5, m6, m7, m8⟩ := h.sm
  exact ⟨by omega, by omega, by omega, by omega⟩
theorem stepB_do {t t' : Bk × Int} {x : GDeed} (h : stepB t x = some t') : doB t.1 x = some t'.1 ∧ t'.2 = x.At ∧ t.2 ≤ x.At := by
  unfold stepB at h
  split at h
  · cases e2 : doB t.1 x with
    | none => rw [e2] at h; cases h
    | some c => rw [e2] at h; cases h; exact ⟨rfl, rfl, by assumption⟩
  · cases h
end
end Go.Proofs.YtgdmaadikcnagaaDoor
/- The first deed that cannot be. -/
namespace Go.Proofs.YtgdmaadikcnagaaDoor
open Go Go.Gx Go.RowKit
set_option linter.unusedVariables false
set_option linter.unusedSimpArgs false

theorem r_callB1 {P : Program} {ρ : Operand → Value} {w : World} {d : Option Tmp} {ty : TypeId} {pos : String} {af : Array Edge} {g : Option (Nat × Bool)} {f : FuncId} {fo : Operand} {a0 : Operand} {r v0 : Value} {cl : List Value} {ats : Array TypeId} (hf : ρ fo = .func (.func f) #[r] cl.toArray) [he : Go.Gx.Enters P f] (h0 : ρ a0 = v0) :
    Go.Gx.Runs P ρ ⟨d, .call { callee := .value fo, args := #[a0], argTypes := ats }, ty, pos, af, g⟩ w (.ok (.enter f (r :: v0 :: cl).toArray) w) :=
  ⟨by
    have e := he.out (r :: v0 :: cl).toArray w
    simp only [execOp, resolve, hf, Deferred.ofValue, List.map_toArray, List.map_cons, List.map_nil, h0] at *
    simpa [invoke, bind, Sem.bind, pure] using e⟩
abbrev wrongV (bb : Nat) : Value := .func (.func 33) #[.pointer (some ⟨bb, 0, none⟩)] [].toArray
/-- The books when all deeds, or those ahead of the first wrong one, were done. -/
def IdxP (w0 : World) (bb b1 b2 : Nat) (l : List GDeed) (ex : List Ob) (v : Value) (w' : World) : Prop := match badAt s0B l with
  | some i => v = .int .i64 (i : Int) ∧ ∃ t : Bk × Int, St w0 w' (BKs bb b1 b2 t.2 t.1 ex)
  | none => v = .int .i64 (-1) ∧ BkRun (bookOf s0B l).1 l.length ∧ St w0 w' (BKs bb b1 b2 (bookOf s0B l).2 (bookOf s0B l).1 ex)
theorem badAt_here {s : Bk × Int} {l r : List GDeed} {x : GDeed} (h : badAt s l = none) (hx : stepB (bookOf s l) x = none) : badAt s (l ++ x :: r) = some l.length := by
  rw [badAt_append s l _ h]
  simp [badAt, hx]
theorem badAt_more {s t : Bk × Int} {l : List GDeed} {x : GDeed} (h : badAt s l = none) (hx : stepB (bookOf s l) x = some t) : badAt s (l ++ [x]) = none ∧ bookOf s (l ++ [x]) = t := by
  rw [badAt_append s l _ h, bookOf_append s l _ h]
  simp [badAt, bookOf, hx]
theorem index_run {w0 w : World} {bb b1 b2 : Nat} {v : Value} {l : List GDeed} {ex : List Ob} (S : St w0 w (BKs bb b1 b2 0 bk0 ex)) (hK : KindsAt w0) (hr : Rd fGDeed.ty w0 v l) (hl : l.length ≤ 60) :
    CallsW Tryd.prog 32 #[v, wrongV bb] w (IdxP w0 bb b1 b2 l ex) := by
  obtain ⟨A, c, rfl⟩ := hr.len
  refine CallsW.mk ?_
  refine calls_enter Tryd.func32 rfl (by intro _ h; first | exact nomatch h.1 | (obtain ⟨_, h, _⟩ := h; exact nomatch h)) Tryd.ntmps32 rfl ?_
  repeat' (first | refine WP_seq ?_ | refine WP_region ?_ | refine wl_nil ?_ | refine then_normal ?_ | refine WP_block ?_ | (refine g_move ?_; refine st_move rfl ?_) | (refine g_assign ?_; refine st_assign rfl ?_) | (refine g_c_len ?_; refine st_val rfl (r_lenSlice rfl) ?_))
  refine WP_loop (fun k σ w1 => ∃ i : Int, Has σ [(0, .slice A l.length c), (1, wrongV bb), (7, .int .i64 l.length), (8, .int .i64 i)] ∧ badAt s0B (l.take i.toNat) = none ∧ BkRun (bookOf s0B (l.take i.toNat)).1 i ∧ 0 ≤ (bookOf s0B (l.take i.toNat)).2 ∧ St w0 w1 (BKs bb b1 b2 (bookOf s0B (l.take i.toNat)).2 (bookOf s0B (l.take i.toNat)).1 ex) ∧ 0 ≤ i ∧ i ≤ l.length ∧ k = l.length - i.toNat) l.length ⟨0, ⟨rfl, rfl, rfl, rfl, trivial⟩, rfl, BkRun.start, Int.le_refl _, S, by omega, by omega, by omega⟩ ?_
  clear S
  rintro k σ w1 ⟨i, hs, hb, hR, hla, S, hi0, hi1, rfl⟩
  refine WP_has hs ?_
  by_cases hi : i < l.length
  · have hspl : l = l.take i.toNat ++ nth l i :: l.drop (i + 1).toNat := by
      rw [← drop_nth hi0 hi, List.take_append_drop]
    have htl : (l.take i.toNat).length = i.toNat := by rw [List.length_take]; omega
    repeat' (first | refine WP_seq ?_ | refine WP_region ?_ | refine wl_nil ?_ | refine then_normal ?_ | refine WP_skip ?_ | refine WP_block ?_ | (refine g_move ?_; refine st_move rfl ?_) | (refine g_assign ?_; refine st_assign rfl ?_) | (refine g_b_lss ?_; refine st_val rfl (r_lss rfl rfl) ?_) | (refine g_indexAddr ?_; (refine st_val rfl (r_indexAddr (hr.mono S.below) rfl rfl ?_ ?_) ?_; (first | omega | (simp <;> omega)); (first | omega | (simp <;> omega)))) | (refine g_load ?_; (refine st_val rfl (r_loadElem (hr.mono S.below) rfl ?_ ?_) ?_; (first | omega | (simp <;> omega)); (first | omega | (simp <;> omega)))) | (refine WP_cond rfl (fun h => ?_) (fun h => ?_) <;> (fail_if_success (have hh : true = true := h)) <;> (fail_if_success (have hh : false = false := h)) <;> (try simp only [decide_eq_true_eq, decide_eq_false_iff_not, Bool.not_eq_true', Bool.not_eq_false', Int.not_lt, Int.not_le] at h) <;> (try (exfalso; omega))))
    refine st_callW rfl (r_callB1 (cl := []) rfl rfl) (wrong_run (x := nth l i) S hK hla hR.ok hR.c50 (hR.smOk (by omega))) ?_
    intro u w h
    unfold WrongP at h
    cases hx : stepB ((bookOf s0B (l.take i.toNat)).1, (bookOf s0B (l.take i.toNat)).2) (nth l i) with
    | none =>
      rw [hx] at h
      obtain ⟨rfl, S'⟩ := h
      repeat' (first | refine WP_seq ?_ | refine WP_region ?_ | refine wl_nil ?_ | refine then_normal ?_ | refine then_ret ?_ | refine inB_ret ?_ | refine WP_ret ?_ | refine WP_condT rfl ?_ | (refine g_move ?_; refine st_move rfl ?_) | (refine g_assign ?_; refine st_assign rfl ?_))
      refine end1 rfl rfl ⟨_, rfl, ?_⟩
      have e : badAt s0B l = some i.toNat := by
        have := badAt_here (r := l.drop (i + 1).toNat) hb hx
        rw [← hspl, htl] at this; exact this
      unfold IdxP
      rw [e]
      refine ⟨?_, _, S'⟩
      show Value.int .i64 i = _
      congr 1; omega
    | some t =>
      rw [hx] at h
      obtain ⟨rfl, S'⟩ := h
      obtain ⟨d1, d2, d3⟩ := stepB_do hx
      have hm := badAt_more hb hx
      rw [← take_snoc hi0 hi] at hm
      repeat' (first | refine WP_region ?_ | refine wl_nil ?_ | refine then_normal ?_ | refine inB_normal ?_ | refine WP_skip ?_ | refine WP_condF rfl ?_ | (refine g_move ?_; refine st_move rfl ?_) | (refine g_b_add ?_; (refine st_val rfl (r_addN rfl rfl ?_ ?_) ?_; (first | omega | (simp <;> omega)); (first | omega | (simp <;> omega)))))
      refine ⟨⟨_, ?_, i + 1, ⟨rfl, rfl, rfl, rfl, trivial⟩, hm.1, by rw [hm.2]; exact hR.next d1, by rw [hm.2]; simp only at d3; omega, by rw [hm.2]; exact S', by omega, by omega, rfl⟩⟩
      omega
  · rw [show i.toNat = l.length by omega, List.take_length] at hb hR S
    repeat' (first | refine WP_seq ?_ | refine WP_region ?_ | refine wl_nil ?_ | refine then_normal ?_ | refine then_exit ?_ | refine inB_here ?_ | refine WP_ret ?_ | refine WP_exit ?_ | (refine g_assign ?_; refine st_assign rfl ?_) | (refine g_b_lss ?_; refine st_val rfl (r_lss rfl rfl) ?_) | (refine WP_cond rfl (fun h => ?_) (fun h => ?_) <;> (fail_if_success (have hh : true = true := h)) <;> (fail_if_success (have hh : false = false := h)) <;> (try simp only [decide_eq_true_eq, decide_eq_false_iff_not, Bool.not_eq_true', Bool.not_eq_false', Int.not_lt, Int.not_le] at h) <;> (try (exfalso; omega))))
    refine end1 rfl rfl ⟨_, rfl, ?_⟩
    unfold IdxP
    rw [hb]
    exact ⟨rfl, by rw [show (l.length : Int) = i by omega]; exact hR, S⟩
end Go.Proofs.YtgdmaadikcnagaaDoor
/- Fold. -/
namespace Go.Proofs.YtgdmaadikcnagaaDoor
open Go Go.Gx Go.RowKit
set_option linter.unusedVariables false
set_option linter.unusedSimpArgs false

theorem mapM_four {α β : Type} {f : α → Sem β} {a a2 a3 a4 : α} {b b2 b3 b4 : β} {P : Program} {w w1 w2 w3 w4 : World} (h : (f a).run P w = .ok b w1) (h2 : (f a2).run P w1 = .ok b2 w2) (h3 : (f a3).run P w2 = .ok b3 w3) (h4 : (f a4).run P w3 = .ok b4 w4) : (#[a, a2, a3, a4].mapM f).run P w = .ok #[b, b2, b3, b4] w4 := by
  have e : (#[a, a2, a3, a4] : Array α).mapM f = (do let l ← [a, a2, a3, a4].mapM f; pure l.toArray) := by
    rw [Array.mapM_eq_mapM_toList]; rfl
  rw [e, List.mapM_cons, List.mapM_cons, List.mapM_cons, List.mapM_cons]
  simp only [List.mapM_nil, bind_assoc, pure_bind]
  exact (run_bind h).trans ((run_bind h2).trans ((run_bind h3).trans ((run_bind h4).trans rfl)))
theorem endTCTT {P : Program} {fn : Func} {n : Nat} {R : Ending → World → Prop} {σ : Nat → Value} {w0 w : World} {t u x y T sz b i : Nat} {os : List Ob} {T' : TypeId} {cs : List Value} {v v3 v4 : Value} [hT : TF P T true sz]
    (hr : fn.results = #[.tmp t, .cell u T, .tmp x, .tmp y]) (hv : cut n σ t = v) (hu : cut n σ u = .pointer (some ⟨b, 0, none⟩)) (hx : cut n σ x = v3) (hy : cut n σ y = v4) (S : St w0 w os) (hi : os[i]? = some (.var b T' cs)) (hl : cs.length = sz) (h : R (.returned (.tuple #[v, .agg cs.toArray, v3, v4])) w) : endQ P fn n R .ret σ w := by
  refine endC ?_ h
  unfold results
  rw [hr]
  refine (run_bind (mapM_four (b := v) (b2 := .agg cs.toArray) (b3 := v3) (b4 := v4) (w1 := w) (w2 := w) (w3 := w) (w4 := w) ?_ ?_ ?_ ?_)).trans rfl
  · show (pure ((Go.Gx.Fr n σ).tmps.getD t undef) : Sem Value).run P w = _
    rw [Fr_getD, hv]; rfl
  · show (do loadVar T (← asAddr ((Go.Gx.Fr n σ).tmps.getD u undef)) : Sem Value).run P w = _
    rw [Fr_getD, hu]
    exact loadVarA S hi hl
  · show (pure ((Go.Gx.Fr n σ).tmps.getD x undef) : Sem Value).run P w = _
    rw [Fr_getD, hx]; rfl
  · show (pure ((Go.Gx.Fr n σ).tmps.getD y undef) : Sem Value).run P w = _
    rw [Fr_getD, hy]; rfl
/-- What Fold returns. -/
structure FoldR (l : List GDeed) (w : World) (v : Value) (w' : World) : Prop where
  ex : ∃ (vd : Value) (ds : List GDebt) (sm : GSums) (n er : Int), v = .tuple #[vd, .agg sm.enc.toArray, .int .i64 n, .int .i64 er] ∧ NewRow fGDebt 33 w w' vd ds ∧ foldI l = (ds, sm, n, er)
theorem foldI_bad {l : List GDeed} {i : Nat} (h : badAt s0B (l.take 60) = some i) : foldI l = ([], GSums.mk 0 0 0 0 0, (i : Int), 140) := by unfold foldI; rw [h]
theorem foldI_long {l : List GDeed} (h : badAt s0B (l.take 60) = none) (hl : 60 < l.length) : foldI l = ([], GSums.mk 0 0 0 0 0, 60, 140) := by unfold foldI; rw [h]; simp only; rw [if_pos hl]
theorem foldI_ok {l : List GDeed} (h : badAt s0B l = none) (hl : l.length ≤ 60) : foldI l = ((bookOf s0B l).1.op, openS (bookOf s0B l).1, (l.length : Int), 0) := by
  unfold foldI; rw [List.take_of_length_le hl, h]; simp only; rw [if_neg (by omega)]
set_option maxHeartbeats 2000000 in
theorem fold_run {l : List GDeed} {v : Value} {w0 : World} (hK : KindsAt w0) (hr : Rd fGDeed.ty w0 v l) (hl : l.length ≤ 1000000000) : CallsR Tryd.prog 12 #[v] w0 (FoldR l w0) := by
  have S := St.start w0
  obtain ⟨A, c, rfl⟩ := hr.len
  refine CallsR.mk ?_
  refine calls_enter Tryd.func12 rfl (by intro _ h; first | exact nomatch h.1 | (obtain ⟨_, h, _⟩ := h; exact nomatch h)) Tryd.ntmps12 rfl ?_
  repeat' (first | refine WP_seq ?_ | refine WP_region ?_ | (refine g_assign ?_; refine st_assign rfl ?_))
  refine g_alloc ?_
  refine st_valE rfl (r_alloc S) ?_
  rintro _ w ⟨br, rfl, -, S'⟩; replace S := S'; clear S'
  repeat' (first | refine WP_seq ?_ | refine WP_region ?_ | refine wl_nil ?_ | refine then_normal ?_ | (refine g_assign ?_; refine st_assign rfl ?_))
  refine st_valE rfl (r_makeMapD eI eDt S) ?_
  rintro _ w ⟨b1, rfl, -, S'⟩; replace S := S'; clear S'
  refine st_valE rfl (r_makeMapD eI eB S) ?_
  rintro _ w ⟨b2, rfl, -, S'⟩; replace S := S'; clear S'
  repeat' (first | refine WP_seq ?_ | refine WP_region ?_ | refine wl_nil ?_ | refine then_normal ?_ | (refine g_move ?_; refine st_move rfl ?_) | (refine g_assign ?_; refine st_assign rfl ?_) | (refine g_build ?_; refine st_val rfl (bd93_0_1 rfl rfl) ?_) | (refine g_c_min ?_; refine st_val rfl (r_min2 rfl rfl) ?_) | (refine g_c_len ?_; refine st_val rfl (r_lenSlice rfl) ?_) | (refine g_box ?_; refine st_valE rfl (r_box S rfl) ?_; rintro _ w ⟨b, rfl, -, S'⟩; replace S := S'.front; clear S'))
  replace S : St w0 w (BKs b b1 b2 0 bk0 [.var br 28 (GSums.mk 0 0 0 0 0).enc]) := S.perm (List.Perm.cons _ (List.perm_middle (l₁ := [_, _]) (l₂ := [])).symm)
  have hcut := hr.cut (lo := 0) (hi := (min (l.length : Int) 60).toNat) (by omega) (by omega)
  rw [List.drop_zero] at hcut
  have htk : l.take (min (l.length : Int) 60).toNat = l.take 60 := by
    by_cases h : l.length ≤ 60
    · rw [List.take_of_length_le h, List.take_of_length_le (by omega)]
    · congr 1; omega
  rw [htk] at hcut
  have htl : (l.take 60).length ≤ 60 := by rw [List.length_take]; omega
  repeat' (first | (refine g_move ?_; refine st_move rfl ?_) | (refine g_makeFunc ?_; refine st_val rfl (r_makeFnB1 rfl) ?_) | (refine st_val rfl (r_sliceHi (hr.mono S.below) rfl rfl ?_ ?_) ?_; omega; omega))
  refine st_callW rfl (r_call2 rfl rfl rfl) (index_run S hK hcut htl) ?_
  intro u w h
  unfold IdxP at h
  cases hb : badAt s0B (l.take 60) with
  | some i =>
    rw [hb] at h
    obtain ⟨rfl, t, S'⟩ := h
    replace S := S'; clear S'
    repeat' (first | refine WP_seq ?_ | refine WP_region ?_ | refine wl_nil ?_ | refine then_normal ?_ | refine then_ret ?_ | refine WP_ret ?_ | refine WP_skip ?_ | refine WP_condT rfl ?_ | refine WP_condF rfl ?_ | (refine g_guard ?_; refine st_off rfl ?_) | (refine g_move ?_; refine st_move rfl ?_) | (refine g_assign ?_; refine st_assign rfl ?_) | (refine g_pick ?_; refine st_pickF rfl rfl ?_) | (refine g_b_lss ?_; refine st_val rfl (r_lss rfl rfl) ?_) | (refine g_b_geq ?_; refine st_val rfl (r_geq rfl rfl) ?_) | (refine g_build ?_; refine st_val rfl (bd28_ ) ?_) | (refine g_store ?_; first | (refine st_skipE rfl (r_storeVar (i := 0) S rfl rfl rfl rfl (of_decide_eq_true rfl) (of_decide_eq_true rfl)) ?_; intro w S'; replace S := S'; clear S') | (refine st_skipE rfl (r_storeVar (i := 1) S rfl rfl rfl rfl (of_decide_eq_true rfl) (of_decide_eq_true rfl)) ?_; intro w S'; replace S := S'; clear S') | (refine st_skipE rfl (r_storeVar (i := 2) S rfl rfl rfl rfl (of_decide_eq_true rfl) (of_decide_eq_true rfl)) ?_; intro w S'; replace S := S'; clear S') | (refine st_skipE rfl (r_storeVar (i := 3) S rfl rfl rfl rfl (of_decide_eq_true rfl) (of_decide_eq_true rfl)) ?_; intro w S'; replace S := S'; clear S')))
    refine endTCTT rfl rfl rfl rfl rfl S (i := 3) rfl rfl ⟨_, rfl, S.below, ⟨_, [], GSums.mk 0 0 0 0 0, i, 140, rfl, NewRow.nil _ _ _ _, foldI_bad hb⟩⟩
  | none =>
    rw [hb] at h
    obtain ⟨rfl, hR, S'⟩ := h
    replace S := S'; clear S'
    by_cases hlong : 60 < l.length
    · repeat' (first | refine WP_seq ?_ | refine WP_region ?_ | refine wl_nil ?_ | refine then_normal ?_ | refine then_ret ?_ | refine WP_ret ?_ | refine WP_condT rfl ?_ | (refine g_move ?_; refine st_move rfl ?_) | (refine g_assign ?_; refine st_assign rfl ?_) | (refine g_pick ?_; refine st_pickT rfl rfl ?_) | (refine g_b_lss ?_; refine st_val rfl (r_lss rfl rfl) ?_) | (refine g_b_gtr ?_; refine st_val rfl (r_gtr rfl rfl) ?_) | (refine g_b_geq ?_; refine st_val rfl (r_geq rfl rfl) ?_) | (refine g_build ?_; refine st_val rfl (bd28_ ) ?_) | (refine g_c_len ?_; refine st_val rfl (r_lenSlice rfl) ?_) | (refine g_store ?_; first | (refine st_skipE rfl (r_storeVar (i := 0) S rfl rfl rfl rfl (of_decide_eq_true rfl) (of_decide_eq_true rfl)) ?_; intro w S'; replace S := S'; clear S') | (refine st_skipE rfl (r_storeVar (i := 1) S rfl rfl rfl rfl (of_decide_eq_true rfl) (of_decide_eq_true rfl)) ?_; intro w S'; replace S := S'; clear S') | (refine st_skipE rfl (r_storeVar (i := 2) S rfl rfl rfl rfl (of_decide_eq_true rfl) (of_decide_eq_true rfl)) ?_; intro w S'; replace S := S'; clear S') | (refine st_skipE rfl (r_storeVar (i := 3) S rfl rfl rfl rfl (of_decide_eq_true rfl) (of_decide_eq_true rfl)) ?_; intro w S'; replace S := S'; clear S')) | (refine WP_cond rfl (fun h => ?_) (fun h => ?_) <;> (fail_if_success (have hh : true = true := h)) <;> (fail_if_success (have hh : false = false := h)) <;> (try simp only [decide_eq_true_eq, decide_eq_false_iff_not, Bool.not_eq_true', Bool.not_eq_false', Int.not_lt, Int.not_le] at h) <;> (try (exfalso; omega))))
      refine endTCTT rfl rfl rfl rfl rfl S (i := 3) rfl rfl ⟨_, rfl, S.below, ⟨_, [], GSums.mk 0 0 0 0 0, 60, 140, rfl, NewRow.nil _ _ _ _, foldI_long hb hlong⟩⟩
    · rw [List.take_of_length_le (by omega)] at hb hR S
      repeat' (first | refine WP_seq ?_ | refine WP_region ?_ | refine wl_nil ?_ | refine then_normal ?_ | refine WP_skip ?_ | refine WP_condF rfl ?_ | (refine g_move ?_; refine st_move rfl ?_) | (refine g_assign ?_; refine st_assign rfl ?_) | (refine g_pick ?_; refine st_pickT rfl rfl ?_) | (refine g_b_lss ?_; refine st_val rfl (r_lss rfl rfl) ?_) | (refine g_b_gtr ?_; refine st_val rfl (r_gtr rfl rfl) ?_) | (refine g_b_geq ?_; refine st_val rfl (r_geq rfl rfl) ?_) | (refine g_nilCheck ?_; refine st_val rfl (r_nilCheck rfl) ?_) | (refine g_c_len ?_; refine st_val rfl (r_lenSlice rfl) ?_) | (refine g_fieldAddr ?_; refine st_val rfl (r_fieldAddrL rfl) ?_) | (refine g_load ?_; refine st_val rfl (r_loadVar (i := 0) S rfl rfl rfl) ?_) | (refine WP_cond rfl (fun h => ?_) (fun h => ?_) <;> (fail_if_success (have hh : true = true := h)) <;> (fail_if_success (have hh : false = false := h)) <;> (try simp only [decide_eq_true_eq, decide_eq_false_iff_not, Bool.not_eq_true', Bool.not_eq_false', Int.not_lt, Int.not_le] at h) <;> (try (exfalso; omega))))
      have hfold := foldI_ok hb (by omega)
      have hlen := hR.len
      have hc50 := hR.c50
      have hok := hR.ok
      clear hb hcut htk htl hR
      generalize hs0 : (bookOf s0B l).1 = s at S hfold hlen hc50 hok
      generalize (bookOf s0B l).2 = last at S
      have hrng : ∀ d ∈ s.op, 0 ≤ d.ID ∧ d.ID ≤ 199 := fun d hd => hok.rng _ (hok.used d hd)
      refine st_callR rfl (r_call1 rfl rfl) keys_spec ?_
      rintro _ w hb ⟨bx, rfl, hbx, hcell⟩; replace S := S.grow hb; clear hb
      refine st_callR rfl (r_call1 rfl rfl) (sorted_spec (S.dmAt (i := 1) rfl) hok.srt hrng (by omega) hbx hcell) ?_
      rintro vi w hb hrow; replace S := S.new hb hrow; clear hb hrow hbx hcell
      have hri := S.rdRow (D := fInt .i64) (i := 4) rfl
      obtain ⟨Ai, ci, hz⟩ := hri.len; subst hz
      clear hri
      have hil : (idsD s.op).length = s.op.length := List.length_map ..
      replace S := St.nilRow fGDebt 33 S
      have hopn : s.sums.Open = 0 := hok.opn
      repeat' (first | refine wl_nil ?_ | refine then_normal ?_ | refine WP_block ?_ | (refine g_move ?_; refine st_move rfl ?_) | (refine g_c_len ?_; refine st_val rfl (r_lenSlice rfl) ?_))
      refine WP_loop (fun k σ w1 => ∃ (i : Int) (vo : Value), Has σ [(0, .slice A l.length c), (3, .pointer (some ⟨br, 0, none⟩)), (6, .pointer (some ⟨b, 0, none⟩)), (8, vo), (39, .slice Ai (idsD s.op).length ci), (40, .int .i64 s.op.length), (41, .int .i64 i)] ∧
        St w0 w1 (BKs b b1 b2 last ⟨s.op, s.used, GSums.mk s.sums.Owed s.sums.Served s.sums.Moved s.sums.Paid (cntA (s.op.take i.toNat))⟩ [.var br 28 (GSums.mk 0 0 0 0 0).enc, rowOb (fInt .i64) 3 (.slice Ai (idsD s.op).length ci) (idsD s.op), rowOb fGDebt 33 vo (s.op.take i.toNat)]) ∧ 0 ≤ cntA (s.op.take i.toNat) ∧ cntA (s.op.take i.toNat) ≤ 50 * i ∧ 0 ≤ i ∧ i ≤ s.op.length ∧ k = s.op.length - i.toNat) s.op.length ⟨0, _, ⟨rfl, rfl, rfl, rfl, rfl, by rw [← hil]; rfl, rfl, trivial⟩, ?_, by simp [cntA], by simp [cntA], by omega, by omega, by omega⟩ ?_
      · have e : GSums.mk s.sums.Owed s.sums.Served s.sums.Moved s.sums.Paid (cntA (s.op.take (0 : Int).toNat)) = s.sums := by
          cases hsm : s.sums; rw [hsm] at hopn; simp at hopn; subst hopn; rfl
        rw [e]; exact S
      clear S
      rintro k σ w1 ⟨i, vo, hs', S, hc0, hc1, hi0, hi1, rfl⟩
      refine WP_has hs' ?_
      by_cases hi : i < s.op.length
      · have hm := mem_nth hi0 hi
        have hg : opM s.op (nth s.op i).ID = some (nth s.op i) := by
          unfold opM
          cases e : getD (nth s.op i).ID s.op with
          | none => exact absurd rfl (getD_none e _ hm)
          | some d =>
            obtain ⟨h1, h2⟩ := getD_mem e
            congr 1
            obtain ⟨j, a, q, hj⟩ := mem_drop (l := s.op) (i := 0) (by omega) (by simpa using h1)
            have hpw := List.pairwise_iff_getElem.1 hok.srt
            obtain ⟨hj1, hj2⟩ := List.getElem?_eq_some_iff.1 (nth_get (l := s.op) (i := j) a q)
            obtain ⟨hi1', hi2⟩ := List.getElem?_eq_some_iff.1 (nth_get (l := s.op) (i := i) hi0 hi)
            rw [hj] at hj2
            rcases Int.lt_trichotomy j i with hh | hh | hh
            · have := hpw j.toNat i.toNat hj1 hi1' (by omega)
              rw [hj2, hi2] at this; omega
            · subst hh; exact hj.symm
            · have := hpw i.toNat j.toNat hi1' hj1 (by omega)
              rw [hj2, hi2] at this; omega
        have hid : nth (idsD s.op) i = (nth s.op i).ID := by
          have h1 := nth_get (l := idsD s.op) (i := i) hi0 (by omega)
          have h2 := nth_get (l := s.op) (i := i) hi0 hi
          unfold idsD at h1
          rw [List.getElem?_map, h2] at h1
          exact (Option.some.inj h1).symm
        have hg' : opM s.op (nth (idsD s.op) i) = some (nth s.op i) := by rw [hid]; exact hg
        have hc := hc50 _ hm
        have hps := hok.pos _ hm
        have htl := take_snoc hi0 hi
        have hsum : cntA (s.op.take i.toNat) + (nth s.op i).Count = cntA (s.op.take (i + 1).toNat) := by
          rw [htl, cntA_append]; simp [cntA]
        have hlr : (s.op.take i.toNat).length ≤ 60 := by rw [List.length_take]; omega
        repeat' (first | refine WP_seq ?_ | refine WP_region ?_ | refine wl_nil ?_ | refine then_normal ?_ | refine WP_skip ?_ | refine WP_block ?_ | (refine g_move ?_; refine st_move rfl ?_) | (refine g_assign ?_; refine st_assign rfl ?_) | (refine g_b_lss ?_; refine st_val rfl (r_lss rfl rfl) ?_) | (refine g_nilCheck ?_; refine st_val rfl (r_nilCheck rfl) ?_) | (refine g_fieldAddr ?_; refine st_val rfl (r_fieldAddrL rfl) ?_) | (refine g_indexAddr ?_; (refine st_val rfl (r_indexAddr (S.rdRow (D := (fInt .i64)) (i := 4) rfl) rfl rfl ?_ ?_) ?_; (first | omega | (simp <;> omega)); (first | omega | (simp <;> omega)))) | (refine g_load ?_; first | (refine st_val rfl (r_loadElem1 (S.rdRow (D := (fInt .i64)) (i := 4) rfl) rfl ?_ ?_ rfl) ?_; (first | omega | (simp <;> omega)); (first | omega | (simp <;> omega))) | refine st_val rfl (r_loadVar (i := 0) S rfl rfl rfl) ?_) | (refine st_val rfl (r_lookup1S (k := nth (idsD s.op) i) (S.dmAt (i := 1) rfl) hg' rfl rfl) ?_) | (refine WP_cond rfl (fun h => ?_) (fun h => ?_) <;> (fail_if_success (have hh : true = true := h)) <;> (fail_if_success (have hh : false = false := h)) <;> (try simp only [decide_eq_true_eq, decide_eq_false_iff_not, Bool.not_eq_true', Bool.not_eq_false', Int.not_lt, Int.not_le] at h) <;> (try (exfalso; omega))))
        refine st_valE rfl (r_litF (D := fGDebt) [nth s.op i] (fun y => .agg y.enc.toArray) S rfl rfl (fun _ => rfl) rfl (by decide) (by decide)) ?_
        rintro _ w ⟨bl, rfl, -, hcl, S'⟩; replace S := S'; clear S'
        refine st_valE rfl (r_append1 (D := fGDebt) (i := 5) (b := bl) (x := nth s.op i) S rfl rfl rfl (fl_one hcl) rfl (by decide) (one_d _) (by omega) (by omega)) ?_
        rintro vo' w ⟨-, S'⟩; replace S := S'; clear S' hcl
        rw [← htl] at S
        repeat' (first | refine WP_region ?_ | refine wl_nil ?_ | refine then_normal ?_ | refine inB_normal ?_ | refine WP_drawTail 16 (by kernel_rfl) (by decide +kernel) ?_ | (refine ql_nil ?_; intro w hb; replace S := S.grow hb; clear hb) | (refine g_move ?_; refine st_move rfl ?_) | (refine g_assign ?_; refine st_assign rfl ?_) | (refine g_b_add ?_; (refine st_val rfl (r_addN rfl rfl ?_ ?_) ?_; (first | omega | (simp <;> omega)); (first | omega | (simp <;> omega)))) | (refine gq_move ?_; refine q_move rfl ?_) | (refine gq_b_add ?_; (refine q_val rfl (fun w' hb => r_addN rfl rfl ?_ ?_) ?_; (first | omega | (simp <;> omega)); (first | omega | (simp <;> omega)))) | (refine gq_nilCheck ?_; refine q_val rfl (fun w' hb => r_nilCheck rfl) ?_) | (refine gq_fieldAddr ?_; refine q_val rfl (fun w' hb => r_fieldAddrL rfl) ?_) | (refine gq_field ?_; refine q_val rfl (fun w' hb => r_field rfl rfl) ?_) | (refine gq_load ?_; refine q_val rfl (fun w' hb => r_loadVar (i := 0) (S.grow hb) rfl rfl rfl) ?_) | (refine g_store ?_; first | (refine st_skipE rfl (r_storeVar (i := 0) S rfl rfl rfl rfl (of_decide_eq_true rfl) (of_decide_eq_true rfl)) ?_; intro w S'; replace S := S'; clear S') | (refine st_skipE rfl (r_storeVar (i := 1) S rfl rfl rfl rfl (of_decide_eq_true rfl) (of_decide_eq_true rfl)) ?_; intro w S'; replace S := S'; clear S') | (refine st_skipE rfl (r_storeVar (i := 2) S rfl rfl rfl rfl (of_decide_eq_true rfl) (of_decide_eq_true rfl)) ?_; intro w S'; replace S := S'; clear S') | (refine st_skipE rfl (r_storeVar (i := 3) S rfl rfl rfl rfl (of_decide_eq_true rfl) (of_decide_eq_true rfl)) ?_; intro w S'; replace S := S'; clear S')) | (refine q_val rfl (fun w' hb => r_lookup1S (k := nth (idsD s.op) i) ((S.grow hb).dmAt (i := 1) rfl) hg' rfl rfl) ?_))
        refine ⟨⟨_, ?_, i + 1, vo', ⟨rfl, rfl, rfl, rfl, rfl, rfl, rfl, trivial⟩, ?_, by omega, by omega, by omega, by omega, rfl⟩⟩
        · omega
        · rw [← hsum]; exact S.keep [true, true, true, true, true, true]
      · rw [show i.toNat = s.op.length by omega, List.take_length] at S
        repeat' (first | refine WP_seq ?_ | refine WP_region ?_ | refine wl_nil ?_ | refine then_normal ?_ | refine then_exit ?_ | refine inB_here ?_ | refine WP_exit ?_ | (refine WP_drawJ (fun w' => St w0 w' [.var b 93 (bkC b1 b2 last (GSums.mk s.sums.Owed s.sums.Served s.sums.Moved s.sums.Paid (cntA s.op)))]) [0,1,2,3,4,5,6] [7,8,9,10] [] (by kernel_rfl) (by decide) (by decide +kernel) (fun w' hb => (S.grow hb).keep [true]) ?_; intro w hb; replace S := S.grow hb; clear hb) | refine jq_nil ?_ | (refine g_b_lss ?_; refine st_val rfl (r_lss rfl rfl) ?_) | (refine gj_move ?_; refine jq_val rfl (fun w' hJ => ⟨rfl⟩) ?_) | (refine gj_assign ?_; refine jq_val rfl (fun w' hJ => ⟨rfl⟩) ?_) | (refine gj_nilCheck ?_; refine jq_val rfl (fun w' hJ => r_nilCheck rfl) ?_) | (refine gj_c_len ?_; refine jq_val rfl (fun w' hJ => r_lenSlice rfl) ?_) | (refine gj_fieldAddr ?_; refine jq_val rfl (fun w' hJ => r_fieldAddrL rfl) ?_) | (refine gj_load ?_; refine jq_val rfl (fun w' hJ => r_loadVarA (i := 0) hJ rfl rfl rfl rfl) ?_) | (refine gw_move ?_; refine wj_val rfl (⟨rfl⟩) (S.keep [true]) ?_) | (refine gw_assign ?_; refine wj_val rfl (⟨rfl⟩) (S.keep [true]) ?_) | (refine WP_cond rfl (fun h => ?_) (fun h => ?_) <;> (fail_if_success (have hh : true = true := h)) <;> (fail_if_success (have hh : false = false := h)) <;> (try simp only [decide_eq_true_eq, decide_eq_false_iff_not, Bool.not_eq_true', Bool.not_eq_false', Int.not_lt, Int.not_le] at h) <;> (try (exfalso; omega))))
        refine wj_skipE rfl (r_storeVar (i := 3) S rfl rfl rfl rfl (of_decide_eq_true rfl) (of_decide_eq_true rfl)) ?_
        intro w S'
        refine ⟨S'.keep [true], ?_⟩
        replace S := S'; clear S'
        repeat' (first | refine wl_nil ?_ | refine then_normal ?_ | refine WP_ret ?_ | refine wj_nil ?_ | (refine gw_move ?_; refine wj_val rfl (⟨rfl⟩) (S.keep [true]) ?_) | (refine gw_assign ?_; refine wj_val rfl (⟨rfl⟩) (S.keep [true]) ?_))
        have hos : openS s = GSums.mk s.sums.Owed s.sums.Served s.sums.Moved s.sums.Paid (cntA s.op) := by
          unfold openS; rw [hopn, Int.zero_add]
        rw [hos] at hfold
        exact endTCTT rfl rfl rfl rfl rfl S (i := 3) rfl rfl ⟨_, rfl, S.below, ⟨_, s.op, _, (l.length : Int), 0, rfl, S.row (i := 5) rfl, hfold⟩⟩
end Go.Proofs.YtgdmaadikcnagaaDoor
/- Owe: deeds for what is missing of contracts. -/
namespace Go.Proofs.YtgdmaadikcnagaaDoor
open Go Go.Gx Go.RowKit
set_option linter.unusedVariables false
set_option linter.unusedSimpArgs false

theorem one_de : ∀ (x : GDeed), ∀ u ∈ fGDeed.enc x, u.oneCell' = true := by intro x u hu; simp [fGDeed, GDeed.enc] at hu; rcases hu with rfl | rfl | rfl | rfl | rfl | rfl | rfl <;> rfl
/-- The deeds for what is missing, numbered from id on. -/
def oweD (now due : Int) : Int → List (GContract × Int) → List GDeed
  | _, [] => []
  | id, x :: r => if 0 < x.2 then ⟨1, id, 0, x.1.ID, x.2, due, now⟩ :: oweD now due (id + 1) r else oweD now due id r
theorem oweD_snoc {now due : Int} {x : GContract × Int} : ∀ {l : List (GContract × Int)} {id : Int}, oweD now due id (l ++ [x]) = oweD now due id l ++ (if 0 < x.2 then [⟨1, id + (oweD now due id l).length, 0, x.1.ID, x.2, due, now⟩] else [])
  | [], id => by
    simp only [List.nil_append, oweD, List.length_nil, Int.natCast_zero, Int.add_zero]
  | a :: r, id => by
    simp only [List.cons_append, oweD]
    by_cases h : 0 < a.2
    · rw [if_pos h, if_pos h, oweD_snoc (l := r)]
      simp only [List.cons_append, List.length_cons]
      rw [show id + 1 + ((oweD now due (id + 1) r).length : Int) = id + (((oweD now due (id + 1) r).length + 1 : Nat) : Int) by omega]
    · rw [if_neg h, if_neg h, oweD_snoc (l := r)]
theorem oweD_len {now due : Int} : ∀ {l : List (GContract × Int)} {id : Int}, (oweD now due id l).length ≤ l.length
  | [], _ => Nat.le_refl _
  | a :: r, id => by
    unfold oweD; split
    · have := oweD_len (now := now) (due := due) (l := r) (id := id + 1); simp; omega
    · have := oweD_len (now := now) (due := due) (l := r) (id := id); simp; omega
def oweBad (l : List GContract) (sp : List GSpot) (now due id : Int) : Prop := (missingI l sp now).2 ≠ 0 ∨ 10000000 ≤ now ∨ due ≤ now ∨ 10000000 < due ∨ betw id 0 199 = false
instance (l : List GContract) (sp : List GSpot) (now due id : Int) : Decidable (oweBad l sp now due id) := by unfold oweBad; infer_instance
/-- What Owe returns. -/
def oweI (l : List GContract) (sp : List GSpot) (now due id : Int) : List GDeed × Int :=
  if oweBad l sp now due id then ([], 140)
  else if 200 < id + (oweD now due id (l.zip (missingI l sp now).1)).length then ([], 140)
  else (oweD now due id (l.zip (missingI l sp now).1), 0)
theorem missing_len {l : List GContract} {sp : List GSpot} {now : Int} (h : (missingI l sp now).2 = 0) : (missingI l sp now).1.length = l.length ∧ l.length ≤ 12 := by
  unfold missingI at *
  split at h
  · rename_i hc
    rw [if_pos hc]
    refine ⟨List.length_map .., ?_⟩
    simp only [Bool.and_eq_true] at hc
    exact validC_len (okI_t hc.1).1
  · simp at h
theorem nth_zip {l : List GContract} {m : List Int} (h : m.length = l.length) {i : Int} (h0 : 0 ≤ i) (hi : i < l.length) : nth (l.zip m) i = (nth l i, nth m i) := by
  have h1 := nth_get (l := l) h0 hi
  have h2 := nth_get (l := m) (i := i) h0 (by omega)
  have h3 := nth_get (l := l.zip m) (i := i) h0 (by rw [List.length_zip]; omega)
  rw [List.getElem?_zip_eq_some (z := (nth l i, nth m i)) |>.2 ⟨h1, h2⟩] at h3
  exact (Option.some.inj h3).symm
set_option maxHeartbeats 1000000 in
theorem owe_run {l : List GContract} {sp : List GSpot} {now due id : Int} {v1 v2 : Value} {w0 : World} (hr1 : Rd fGContract.ty w0 v1 l) (hr2 : Rd fGSpot.ty w0 v2 sp) (hl : l.length ≤ 1000000000) (hl2 : sp.length ≤ 1000000000) (hG : TblAt w0) :
    CallsR Tryd.prog 25 #[v1, v2, .int .i64 now, .int .i64 due, .int .i64 id] w0 (fun v w' => ∃ vo, v = .tuple #[vo, .int .i64 (oweI l sp now due id).2] ∧ NewRow fGDeed 36 w0 w' vo (oweI l sp now due id).1) := by
  have S := St.start w0
  obtain ⟨A, c, rfl⟩ := hr1.len
  obtain ⟨A2, c2, rfl⟩ := hr2.len
  refine CallsR.mk ?_
  refine calls_enter Tryd.func25 rfl (by intro _ h; first | exact nomatch h.1 | (obtain ⟨_, h, _⟩ := h; exact nomatch h)) Tryd.ntmps25 rfl ?_
  by_cases hbad : oweBad l sp now due id
  · have e : oweI l sp now due id = ([], 140) := by unfold oweI; rw [if_pos hbad]
    rw [e]
    have hbad' := hbad
    unfold oweBad at hbad'
    repeat' (first | refine WP_seq ?_ | refine WP_region ?_ | refine wl_nil ?_ | refine then_normal ?_ | (refine g_move ?_; refine st_move rfl ?_) | (refine g_assign ?_; refine st_assign rfl ?_))
    refine st_callR rfl (r_call3 rfl rfl rfl rfl) (missingC_run (t := now) (hr1.mono S.below) (hr2.mono S.below) hl hl2 (hG.mono S.below)) ?_
    rintro _ w hb ⟨vm, rfl, hrow⟩; replace S := S.new hb hrow; clear hb hrow
    repeat' (first | refine WP_seq ?_ | refine WP_region ?_ | refine wl_nil ?_ | refine then_normal ?_ | refine then_ret ?_ | refine WP_ret ?_ | refine WP_condT rfl ?_ | (refine g_guard ?_; refine st_off rfl ?_) | (refine g_move ?_; refine st_move rfl ?_) | (refine g_assign ?_; refine st_assign rfl ?_) | (refine g_pick ?_; first | refine st_pickT rfl rfl ?_ | refine st_pickF rfl rfl ?_) | (refine g_b_neq ?_; refine st_val rfl (r_neq rfl rfl) ?_) | (refine g_b_leq ?_; refine st_val rfl (r_leq rfl rfl) ?_) | (refine g_b_gtr ?_; refine st_val rfl (r_gtr rfl rfl) ?_) | (refine g_b_geq ?_; refine st_val rfl (r_geq rfl rfl) ?_) | (refine g_un ?_; refine st_val rfl (r_not rfl) ?_) | (refine g_extract ?_; refine st_val rfl (r_extract rfl rfl) ?_) | (refine g_callV ?_; (refine st_callV rfl (r_call3 rfl rfl rfl rfl) (bt_spec) ?_; intro w hb; replace S := S.grow hb; clear hb)) | (refine wl_split rfl rfl (fun h => ?_) (fun h => ?_) <;> (fail_if_success (have hh : true = true := h)) <;> (fail_if_success (have hh : false = false := h)) <;> (try simp only [decide_eq_true_eq, decide_eq_false_iff_not, Bool.not_eq_true', Bool.not_eq_false', Int.not_lt, Int.not_le] at h) <;> (try (exfalso; omega)) <;> (try (exfalso; (simp_all <;> omega); done))) | (refine WP_cond rfl (fun h => ?_) (fun h => ?_) <;> (fail_if_success (have hh : true = true := h)) <;> (fail_if_success (have hh : false = false := h)) <;> (try simp only [decide_eq_true_eq, decide_eq_false_iff_not, Bool.not_eq_true', Bool.not_eq_false', Int.not_lt, Int.not_le] at h) <;> (try (exfalso; omega)) <;> (try (exfalso; (simp_all <;> omega); done))))
    all_goals exact end2 rfl rfl rfl ⟨_, rfl, S.below, _, rfl, NewRow.nil _ _ _ _⟩
  have hgood : (missingI l sp now).2 = 0 ∧ now < 10000000 ∧ now < due ∧ due ≤ 10000000 ∧ betw id 0 199 = true := by
    unfold oweBad at hbad
    refine ⟨Classical.byContradiction fun h => hbad (.inl h), Classical.byContradiction fun h => hbad (.inr (.inl (by omega))), Classical.byContradiction fun h => hbad (.inr (.inr (.inl (by omega)))), Classical.byContradiction fun h => hbad (.inr (.inr (.inr (.inl (by omega))))), ?_⟩
    cases hb : betw id 0 199 with
    | true => rfl
    | false => exact absurd (.inr (.inr (.inr (.inr hb)))) hbad
  obtain ⟨g1, g2, g3, g4, g5⟩ := hgood
  have hid := betw_iff.1 g5
  obtain ⟨hml, hl12⟩ := missing_len g1
  have e : oweI l sp now due id = if 200 < id + (oweD now due id (l.zip (missingI l sp now).1)).length then ([], 140) else (oweD now due id (l.zip (missingI l sp now).1), 0) := by unfold oweI; rw [if_neg hbad]
  rw [e]
  clear e
  repeat' (first | refine WP_seq ?_ | refine WP_region ?_ | refine wl_nil ?_ | refine then_normal ?_ | (refine g_move ?_; refine st_move rfl ?_) | (refine g_assign ?_; refine st_assign rfl ?_))
  refine st_callR rfl (r_call3 rfl rfl rfl rfl) (missingC_run (t := now) (hr1.mono S.below) (hr2.mono S.below) hl hl2 (hG.mono S.below)) ?_
  rintro _ w hb ⟨vm, rfl, hrow⟩; replace S := S.new hb hrow; clear hb hrow
  generalize hms : (missingI l sp now).1 = ms at *
  have hzl : (l.zip ms).length = l.length := by rw [List.length_zip]; omega
  obtain ⟨Am, cm, hz⟩ := (S.rdRow (D := fInt .i64) (i := 0) rfl).len; subst hz
  rw [g1]
  repeat' (first | refine WP_seq ?_ | refine WP_region ?_ | refine wl_nil ?_ | refine then_normal ?_ | refine WP_skip ?_ | refine WP_block ?_ | (refine g_move ?_; refine st_move rfl ?_) | (refine g_assign ?_; refine st_assign rfl ?_) | (refine g_pick ?_; refine st_pickF rfl rfl ?_) | (refine g_b_neq ?_; refine st_val rfl (r_neq rfl rfl) ?_) | (refine g_b_leq ?_; refine st_val rfl (r_leq rfl rfl) ?_) | (refine g_b_gtr ?_; refine st_val rfl (r_gtr rfl rfl) ?_) | (refine g_b_geq ?_; refine st_val rfl (r_geq rfl rfl) ?_) | (refine g_un ?_; refine st_val rfl (r_not rfl) ?_) | (refine g_extract ?_; refine st_val rfl (r_extract rfl rfl) ?_) | (refine g_c_len ?_; refine st_val rfl (r_lenSlice rfl) ?_) | (refine g_callV ?_; (refine st_callV rfl (r_call3 rfl rfl rfl rfl) (bt_spec) ?_; intro w hb; replace S := S.grow hb; clear hb)) | (refine wl_split rfl rfl (fun h => ?_) (fun h => ?_) <;> (fail_if_success (have hh : true = true := h)) <;> (fail_if_success (have hh : false = false := h)) <;> (try simp only [decide_eq_true_eq, decide_eq_false_iff_not, Bool.not_eq_true', Bool.not_eq_false', Int.not_lt, Int.not_le] at h) <;> (try (exfalso; omega)) <;> (try (exfalso; (first | omega | (rw [g5] at h; cases h)); done))) | (refine WP_cond rfl (fun h => ?_) (fun h => ?_) <;> (fail_if_success (have hh : true = true := h)) <;> (fail_if_success (have hh : false = false := h)) <;> (try simp only [decide_eq_true_eq, decide_eq_false_iff_not, Bool.not_eq_true', Bool.not_eq_false', Int.not_lt, Int.not_le] at h) <;> (try (exfalso; omega)) <;> (try (exfalso; (first | omega | (rw [g5] at h; cases h)); done))))
  replace S := St.nilRow fGDeed 36 S
  refine WP_loop (fun k σ w1 => ∃ (i : Int) (vo : Value), Has σ [(0, .slice A l.length c), (2, .int .i64 now), (3, .int .i64 due), (4, .int .i64 id), (14, vo), (44, .slice Am ms.length cm), (45, .int .i64 ms.length), (46, .int .i64 i)] ∧ St w0 w1 [rowOb (fInt .i64) 3 (.slice Am ms.length cm) ms, rowOb fGDeed 36 vo (oweD now due id ((l.zip ms).take i.toNat))] ∧ 0 ≤ i ∧ i ≤ ms.length ∧ k = ms.length - i.toNat) ms.length ⟨0, _, ⟨rfl, rfl, rfl, rfl, rfl, rfl, rfl, rfl, trivial⟩, S, by omega, by omega, by omega⟩ ?_
  clear S
  rintro k σ w1 ⟨i, vo, hs, S, hi0, hi1, rfl⟩
  refine WP_has hs ?_
  have hdl := @oweD_len now due ((l.zip ms).take i.toNat) id
  rw [List.length_take] at hdl
  obtain ⟨Ao, co, hz⟩ := (S.rdRow (D := fGDeed) (i := 1) rfl).len; subst hz
  by_cases hi : i < ms.length
  · have hstep := oweD_snoc (now := now) (due := due) (x := nth (l.zip ms) i) (l := (l.zip ms).take i.toNat) (id := id)
    rw [← take_snoc hi0 (by omega), nth_zip hml hi0 (by omega)] at hstep
    simp only at hstep
    by_cases h0 : 0 < nth ms i
    · rw [if_pos h0] at hstep
      repeat' (first | refine WP_seq ?_ | refine WP_region ?_ | refine wl_nil ?_ | refine then_normal ?_ | refine WP_skip ?_ | refine WP_block ?_ | (refine g_move ?_; refine st_move rfl ?_) | (refine g_assign ?_; refine st_assign rfl ?_) | (refine g_b_add ?_; (refine st_val rfl (r_addN rfl rfl ?_ ?_) ?_; (first | omega | (simp <;> omega)); (first | omega | (simp <;> omega)))) | (refine g_b_lss ?_; refine st_val rfl (r_lss rfl rfl) ?_) | (refine g_b_gtr ?_; refine st_val rfl (r_gtr rfl rfl) ?_) | (refine g_build ?_; refine st_val rfl (bd36_0_1_3_4_5_6 rfl rfl rfl rfl rfl rfl) ?_) | (refine g_c_len ?_; refine st_val rfl (r_lenSlice rfl) ?_) | (refine g_fieldAddr ?_; refine st_val rfl (r_fieldAddr rfl) ?_) | (refine g_indexAddr ?_; first | (refine st_val rfl (r_indexAddr (hr1.mono S.below) rfl rfl ?_ ?_) ?_; (first | omega | (simp <;> omega)); (first | omega | (simp <;> omega))) | (refine st_val rfl (r_indexAddr (S.rdRow (D := (fInt .i64)) (i := 0) rfl) rfl rfl ?_ ?_) ?_; (first | omega | (simp <;> omega)); (first | omega | (simp <;> omega)))) | (refine g_load ?_; first | (refine st_val rfl (r_loadElem1 (hr1.mono S.below) rfl ?_ ?_ rfl) ?_; (first | omega | (simp <;> omega)); (first | omega | (simp <;> omega))) | (refine st_val rfl (r_loadElem1 (S.rdRow (D := (fInt .i64)) (i := 0) rfl) rfl ?_ ?_ rfl) ?_; (first | omega | (simp <;> omega)); (first | omega | (simp <;> omega)))) | (refine WP_cond rfl (fun h => ?_) (fun h => ?_) <;> (fail_if_success (have hh : true = true := h)) <;> (fail_if_success (have hh : false = false := h)) <;> (try simp only [decide_eq_true_eq, decide_eq_false_iff_not, Bool.not_eq_true', Bool.not_eq_false', Int.not_lt, Int.not_le] at h) <;> (try (exfalso; omega)) <;> (try (exfalso; omega; done))))
      refine st_valE rfl (r_litF (D := fGDeed) [GDeed.mk 1 (id + (oweD now due id ((l.zip ms).take i.toNat)).length) 0 (nth l i).ID (nth ms i) due now] (fun y => .agg y.enc.toArray) S rfl rfl (fun _ => rfl) rfl (by decide) (by decide)) ?_
      rintro _ w ⟨bl, rfl, -, hcl, S'⟩; replace S := S'; clear S'
      refine st_valE rfl (r_append1 (D := fGDeed) (i := 1) (b := bl) (x := GDeed.mk 1 (id + (oweD now due id ((l.zip ms).take i.toNat)).length) 0 (nth l i).ID (nth ms i) due now) S rfl rfl rfl (fl_one hcl) rfl (by decide) (one_de _) (by omega) (by omega)) ?_
      rintro vo' w ⟨-, S'⟩; replace S := S'; clear S' hcl
      rw [← hstep] at S
      repeat' (first | refine WP_region ?_ | refine wl_nil ?_ | refine then_normal ?_ | refine inB_normal ?_ | (refine g_move ?_; refine st_move rfl ?_) | (refine g_assign ?_; refine st_assign rfl ?_) | (refine g_b_add ?_; (refine st_val rfl (r_addN rfl rfl ?_ ?_) ?_; (first | omega | (simp <;> omega)); (first | omega | (simp <;> omega)))))
      refine ⟨⟨_, ?_, i + 1, vo', ⟨rfl, rfl, rfl, rfl, rfl, rfl, rfl, rfl, trivial⟩, S.keep [true, true], by omega, by omega, rfl⟩⟩
      omega
    · rw [if_neg h0, List.append_nil] at hstep
      repeat' (first | refine WP_seq ?_ | refine WP_region ?_ | refine wl_nil ?_ | refine then_normal ?_ | refine inB_normal ?_ | refine WP_skip ?_ | refine WP_block ?_ | (refine g_move ?_; refine st_move rfl ?_) | (refine g_assign ?_; refine st_assign rfl ?_) | (refine g_b_add ?_; (refine st_val rfl (r_addN rfl rfl ?_ ?_) ?_; (first | omega | (simp <;> omega)); (first | omega | (simp <;> omega)))) | (refine g_b_lss ?_; refine st_val rfl (r_lss rfl rfl) ?_) | (refine g_b_gtr ?_; refine st_val rfl (r_gtr rfl rfl) ?_) | (refine g_indexAddr ?_; (refine st_val rfl (r_indexAddr (S.rdRow (D := (fInt .i64)) (i := 0) rfl) rfl rfl ?_ ?_) ?_; (first | omega | (simp <;> omega)); (first | omega | (simp <;> omega)))) | (refine g_load ?_; (refine st_val rfl (r_loadElem1 (S.rdRow (D := (fInt .i64)) (i := 0) rfl) rfl ?_ ?_ rfl) ?_; (first | omega | (simp <;> omega)); (first | omega | (simp <;> omega)))) | (refine WP_cond rfl (fun h => ?_) (fun h => ?_) <;> (fail_if_success (have hh : true = true := h)) <;> (fail_if_success (have hh : false = false := h)) <;> (try simp only [decide_eq_true_eq, decide_eq_false_iff_not, Bool.not_eq_true', Bool.not_eq_false', Int.not_lt, Int.not_le] at h) <;> (try (exfalso; omega)) <;> (try (exfalso; omega; done))))
      refine ⟨⟨_, ?_, i + 1, _, ⟨rfl, rfl, rfl, rfl, rfl, rfl, rfl, rfl, trivial⟩, by rw [hstep]; exact S, by omega, by omega, rfl⟩⟩
      omega
  · have hE : oweD now due id (l.zip ms) = oweD now due id ((l.zip ms).take i.toNat) := by rw [show i.toNat = (l.zip ms).length by omega, List.take_length]
    rw [hE]
    by_cases hlong : 200 < id + (oweD now due id ((l.zip ms).take i.toNat)).length
    · rw [if_pos hlong]
      repeat' (first | refine WP_seq ?_ | refine WP_region ?_ | refine wl_nil ?_ | refine then_normal ?_ | refine then_exit ?_ | refine inB_here ?_ | refine then_ret ?_ | refine WP_ret ?_ | refine WP_exit ?_ | (refine g_move ?_; refine st_move rfl ?_) | (refine g_assign ?_; refine st_assign rfl ?_) | (refine g_b_add ?_; (refine st_val rfl (r_addN rfl rfl ?_ ?_) ?_; (first | omega | (simp <;> omega)); (first | omega | (simp <;> omega)))) | (refine g_b_lss ?_; refine st_val rfl (r_lss rfl rfl) ?_) | (refine g_b_gtr ?_; refine st_val rfl (r_gtr rfl rfl) ?_) | (refine g_c_len ?_; refine st_val rfl (r_lenSlice rfl) ?_) | (refine WP_cond rfl (fun h => ?_) (fun h => ?_) <;> (fail_if_success (have hh : true = true := h)) <;> (fail_if_success (have hh : false = false := h)) <;> (try simp only [decide_eq_true_eq, decide_eq_false_iff_not, Bool.not_eq_true', Bool.not_eq_false', Int.not_lt, Int.not_le] at h) <;> (try (exfalso; omega)) <;> (try (exfalso; omega; done))))
      exact end2 rfl rfl rfl ⟨_, rfl, S.below, _, rfl, NewRow.nil _ _ _ _⟩
    · rw [if_neg hlong]
      repeat' (first | refine WP_seq ?_ | refine WP_region ?_ | refine wl_nil ?_ | refine then_normal ?_ | refine then_exit ?_ | refine inB_here ?_ | refine WP_ret ?_ | refine WP_skip ?_ | refine WP_exit ?_ | (refine g_move ?_; refine st_move rfl ?_) | (refine g_assign ?_; refine st_assign rfl ?_) | (refine g_b_add ?_; (refine st_val rfl (r_addN rfl rfl ?_ ?_) ?_; (first | omega | (simp <;> omega)); (first | omega | (simp <;> omega)))) | (refine g_b_lss ?_; refine st_val rfl (r_lss rfl rfl) ?_) | (refine g_b_gtr ?_; refine st_val rfl (r_gtr rfl rfl) ?_) | (refine g_c_len ?_; refine st_val rfl (r_lenSlice rfl) ?_) | (refine WP_cond rfl (fun h => ?_) (fun h => ?_) <;> (fail_if_success (have hh : true = true := h)) <;> (fail_if_success (have hh : false = false := h)) <;> (try simp only [decide_eq_true_eq, decide_eq_false_iff_not, Bool.not_eq_true', Bool.not_eq_false', Int.not_lt, Int.not_le] at h) <;> (try (exfalso; omega)) <;> (try (exfalso; omega; done))))
      exact end2 rfl rfl rfl ⟨_, rfl, S.below, _, rfl, S.row (i := 1) rfl⟩
end Go.Proofs.YtgdmaadikcnagaaDoor
/- Numbers that pick; lists that are alike; what servings come to. -/
namespace Go.Proofs.YtgdmaadikcnagaaDoor
open Go Go.Gx Go.RowKit
set_option linter.unusedVariables false
set_option linter.unusedSimpArgs false

theorem pickL_spec {c n : Int} {w : World} (hc0 : -9223372036854775808 ≤ c) (hc : c ≤ 9223372036854775807) (hn : 0 < n) : CallsV Tryd.prog 13 #[.int .i64 c, .int .i64 n] w (.int .i64 (pickI c n)) := by
  have S := St.start w
  refine CallsV.mk ?_
  refine calls_enter Tryd.func13 rfl (by intro _ h; first | exact nomatch h.1 | (obtain ⟨_, h, _⟩ := h; exact nomatch h)) Tryd.ntmps13 rfl ?_
  repeat' (first | refine WP_seq ?_ | refine WP_region ?_ | refine wl_nil ?_ | refine then_normal ?_ | refine WP_ret ?_ | refine WP_skip ?_ | (refine g_move ?_; refine st_move rfl ?_) | (refine g_assign ?_; refine st_assign rfl ?_) | (refine g_b_add ?_; (refine st_val rfl (r_addN rfl rfl ?_ ?_) ?_; (first | omega | (simp <;> omega)); (first | omega | (simp <;> omega)))) | (refine g_b_rem ?_; (refine st_val rfl (r_remN rfl rfl ?_ ?_) ?_; (first | omega | (simp <;> omega)); (first | omega | (simp <;> omega)))) | (refine g_b_lss ?_; refine st_val rfl (r_lss rfl rfl) ?_) | (refine g_un ?_; (refine st_val rfl (r_negN rfl ?_ ?_) ?_; (first | omega | (simp <;> omega)); (first | omega | (simp <;> omega)))) | (refine WP_cond rfl (fun h => ?_) (fun h => ?_) <;> (fail_if_success (have hh : true = true := h)) <;> (fail_if_success (have hh : false = false := h)) <;> (try simp only [decide_eq_true_eq, decide_eq_false_iff_not, Bool.not_eq_true', Bool.not_eq_false', Int.not_lt, Int.not_le] at h) <;> (try (exfalso; omega))))
  · exact end1 rfl rfl ⟨ri (by unfold pickI; rw [if_pos h]), S.below⟩
  · exact end1 rfl rfl ⟨ri (by unfold pickI; rw [if_neg (by omega)]), S.below⟩
theorem pickL_is {c n x : Int} {w : World} (hx : pickI c n = x) (hc0 : -9223372036854775808 ≤ c) (hc : c ≤ 9223372036854775807) (hn : 0 < n) : CallsV Tryd.prog 13 #[.int .i64 c, .int .i64 n] w (.int .i64 x) := by
  rw [← hx]; exact pickL_spec hc0 hc hn

theorem ext_nth {α : Type} [Inhabited α] {l m : List α} (hl : l.length = m.length) (h : ∀ j : Int, 0 ≤ j → j < l.length → nth l j = nth m j) : l = m := by
  apply List.ext_getElem? 
  intro j
  by_cases hj : j < l.length
  · have h1 := nth_get (l := l) (i := j) (by omega) (by omega)
    have h2 := nth_get (l := m) (i := j) (by omega) (by omega)
    simp only [Int.toNat_natCast] at h1 h2
    rw [h1, h2, h j (by omega) (by omega)]
  · rw [List.getElem?_eq_none (by omega), List.getElem?_eq_none (by omega)]
theorem sameD_spec {v v2 : Value} {l m : List GDebt} {w : World} (hr : Rd fGDebt.ty w v l) (hr2 : Rd fGDebt.ty w v2 m) (hl : l.length ≤ 1000000000) (hm : m.length ≤ 1000000000) :
    CallsV Tryd.prog 28 #[v, v2] w (.bool (decide (l = m))) := by
  have S := St.start w
  obtain ⟨A, c, rfl⟩ := hr.len
  obtain ⟨A2, c2, rfl⟩ := hr2.len
  refine CallsV.mk ?_
  refine calls_enter Tryd.func28 rfl (by intro _ h; first | exact nomatch h.1 | (obtain ⟨_, h, _⟩ := h; exact nomatch h)) Tryd.ntmps28 rfl ?_
  repeat' (first | refine WP_seq ?_ | refine WP_region ?_ | refine wl_nil ?_ | refine then_normal ?_ | refine then_ret ?_ | refine WP_ret ?_ | refine WP_skip ?_ | refine WP_block ?_ | (refine g_move ?_; refine st_move rfl ?_) | (refine g_assign ?_; refine st_assign rfl ?_) | (refine g_b_neq ?_; refine st_val rfl (r_neq rfl rfl) ?_) | (refine g_c_len ?_; refine st_val rfl (r_lenSlice rfl) ?_) | (refine WP_cond rfl (fun h => ?_) (fun h => ?_) <;> (fail_if_success (have hh : true = true := h)) <;> (fail_if_success (have hh : false = false := h)) <;> (try simp only [decide_eq_true_eq, decide_eq_false_iff_not, Bool.not_eq_true', Bool.not_eq_false', Int.not_lt, Int.not_le] at h) <;> (try (exfalso; omega))))
  · exact end1 rfl rfl ⟨rb (by rw [decide_eq_false]; rintro rfl; omega), S.below⟩
  refine WP_loop (fun k σ w1 => ∃ i : Int, Has σ [(0, .slice A l.length c), (1, .slice A2 m.length c2), (5, .int .i64 i)] ∧ St w w1 [] ∧ 0 ≤ i ∧ i ≤ l.length ∧ k = l.length - i.toNat ∧ ∀ j : Int, 0 ≤ j → j < i → nth l j = nth m j) l.length ⟨0, ⟨rfl, rfl, rfl, trivial⟩, S, by omega, by omega, by omega, fun j h0 h1 => by omega⟩ ?_
  rintro k σ w1 ⟨i, hs, S, hi0, hi1, rfl, hall⟩
  refine WP_has hs ?_
  repeat' (first | refine WP_seq ?_ | refine WP_region ?_ | refine wl_nil ?_ | refine then_normal ?_ | refine inB_normal ?_ | refine then_exit ?_ | refine inB_here ?_ | refine then_ret ?_ | refine inB_ret ?_ | refine WP_ret ?_ | refine WP_skip ?_ | refine WP_exit ?_ | refine WP_block ?_ | refine WP_draw (by kernel_rfl) (by kernel_rfl) ?_ | (refine ql_nil ?_; intro w hb; replace S := S.grow hb; clear hb) | (refine g_move ?_; refine st_move rfl ?_) | (refine g_assign ?_; refine st_assign rfl ?_) | (refine g_b_add ?_; (refine st_val rfl (r_addN rfl rfl ?_ ?_) ?_; (first | omega | (simp <;> omega)); (first | omega | (simp <;> omega)))) | (refine g_b_lss ?_; refine st_val rfl (r_lss rfl rfl) ?_) | (refine g_c_len ?_; refine st_val rfl (r_lenSlice rfl) ?_) | (refine gq_move ?_; refine q_move rfl ?_) | (refine gq_b_neq ?_; refine q_val rfl (fun w' hb => neq33 rfl rfl) ?_) | (refine gq_indexAddr ?_; first | (refine q_val rfl (fun w' hb => r_indexAddr (hr.mono (S.grow hb).below) rfl rfl ?_ ?_) ?_; (first | omega | (simp <;> omega)); (first | omega | (simp <;> omega))) | (refine q_val rfl (fun w' hb => r_indexAddr (hr2.mono (S.grow hb).below) rfl rfl ?_ ?_) ?_; (first | omega | (simp <;> omega)); (first | omega | (simp <;> omega)))) | (refine gq_load ?_; first | (refine q_val rfl (fun w' hb => r_loadElem (hr.mono (S.grow hb).below) rfl ?_ ?_) ?_; (first | omega | (simp <;> omega)); (first | omega | (simp <;> omega))) | (refine q_val rfl (fun w' hb => r_loadElem (hr2.mono (S.grow hb).below) rfl ?_ ?_) ?_; (first | omega | (simp <;> omega)); (first | omega | (simp <;> omega)))) | (refine WP_cond rfl (fun h => ?_) (fun h => ?_) <;> (fail_if_success (have hh : true = true := h)) <;> (fail_if_success (have hh : false = false := h)) <;> (try simp only [decide_eq_true_eq, decide_eq_false_iff_not, Bool.not_eq_true', Bool.not_eq_false', Int.not_lt, Int.not_le] at h) <;> (try (exfalso; omega))))
  · refine end1 rfl rfl ⟨rb ?_, S.below⟩
    symm; rw [decide_eq_false_iff_not]; rintro rfl
    simp at h
  · refine ⟨⟨_, ?_, i + 1, ⟨rfl, rfl, rfl, trivial⟩, S, by omega, by omega, rfl, fun j h0 h1 => ?_⟩⟩
    · omega
    · by_cases e : j = i
      · subst e; first | exact h | exact of_decide_eq_true h
      · exact hall j h0 (by omega)
  · refine end1 rfl rfl ⟨rb ?_, S.below⟩
    symm; rw [decide_eq_true_iff]
    exact ext_nth (by omega) fun j h0 h1 => hall j h0 (by omega)

theorem sameS_spec {v v2 : Value} {l m : List GServing} {w : World} (hr : Rd fGServing.ty w v l) (hr2 : Rd fGServing.ty w v2 m) (hl : l.length ≤ 1000000000) (hm : m.length ≤ 1000000000) :
    CallsV Tryd.prog 27 #[v, v2] w (.bool (decide (l = m))) := by
  have S := St.start w
  obtain ⟨A, c, rfl⟩ := hr.len
  obtain ⟨A2, c2, rfl⟩ := hr2.len
  refine CallsV.mk ?_
  refine calls_enter Tryd.func27 rfl (by intro _ h; first | exact nomatch h.1 | (obtain ⟨_, h, _⟩ := h; exact nomatch h)) Tryd.ntmps27 rfl ?_
  repeat' (first | refine WP_seq ?_ | refine WP_region ?_ | refine wl_nil ?_ | refine then_normal ?_ | refine then_ret ?_ | refine WP_ret ?_ | refine WP_skip ?_ | refine WP_block ?_ | (refine g_move ?_; refine st_move rfl ?_) | (refine g_assign ?_; refine st_assign rfl ?_) | (refine g_b_neq ?_; refine st_val rfl (r_neq rfl rfl) ?_) | (refine g_c_len ?_; refine st_val rfl (r_lenSlice rfl) ?_) | (refine WP_cond rfl (fun h => ?_) (fun h => ?_) <;> (fail_if_success (have hh : true = true := h)) <;> (fail_if_success (have hh : false = false := h)) <;> (try simp only [decide_eq_true_eq, decide_eq_false_iff_not, Bool.not_eq_true', Bool.not_eq_false', Int.not_lt, Int.not_le] at h) <;> (try (exfalso; omega))))
  · exact end1 rfl rfl ⟨rb (by rw [decide_eq_false]; rintro rfl; omega), S.below⟩
  refine WP_loop (fun k σ w1 => ∃ i : Int, Has σ [(0, .slice A l.length c), (1, .slice A2 m.length c2), (5, .int .i64 i)] ∧ St w w1 [] ∧ 0 ≤ i ∧ i ≤ l.length ∧ k = l.length - i.toNat ∧ ∀ j : Int, 0 ≤ j → j < i → nth l j = nth m j) l.length ⟨0, ⟨rfl, rfl, rfl, trivial⟩, S, by omega, by omega, by omega, fun j h0 h1 => by omega⟩ ?_
  rintro k σ w1 ⟨i, hs, S, hi0, hi1, rfl, hall⟩
  refine WP_has hs ?_
  repeat' (first | refine WP_seq ?_ | refine WP_region ?_ | refine wl_nil ?_ | refine then_normal ?_ | refine inB_normal ?_ | refine then_exit ?_ | refine inB_here ?_ | refine then_ret ?_ | refine inB_ret ?_ | refine WP_ret ?_ | refine WP_skip ?_ | refine WP_exit ?_ | refine WP_block ?_ | refine WP_draw (by kernel_rfl) (by kernel_rfl) ?_ | (refine ql_nil ?_; intro w hb; replace S := S.grow hb; clear hb) | (refine g_move ?_; refine st_move rfl ?_) | (refine g_assign ?_; refine st_assign rfl ?_) | (refine g_b_add ?_; (refine st_val rfl (r_addN rfl rfl ?_ ?_) ?_; (first | omega | (simp <;> omega)); (first | omega | (simp <;> omega)))) | (refine g_b_lss ?_; refine st_val rfl (r_lss rfl rfl) ?_) | (refine g_c_len ?_; refine st_val rfl (r_lenSlice rfl) ?_) | (refine gq_move ?_; refine q_move rfl ?_) | (refine gq_b_neq ?_; refine q_val rfl (fun w' hb => neq56 rfl rfl) ?_) | (refine gq_indexAddr ?_; first | (refine q_val rfl (fun w' hb => r_indexAddr (hr.mono (S.grow hb).below) rfl rfl ?_ ?_) ?_; (first | omega | (simp <;> omega)); (first | omega | (simp <;> omega))) | (refine q_val rfl (fun w' hb => r_indexAddr (hr2.mono (S.grow hb).below) rfl rfl ?_ ?_) ?_; (first | omega | (simp <;> omega)); (first | omega | (simp <;> omega)))) | (refine gq_load ?_; first | (refine q_val rfl (fun w' hb => r_loadElem (hr.mono (S.grow hb).below) rfl ?_ ?_) ?_; (first | omega | (simp <;> omega)); (first | omega | (simp <;> omega))) | (refine q_val rfl (fun w' hb => r_loadElem (hr2.mono (S.grow hb).below) rfl ?_ ?_) ?_; (first | omega | (simp <;> omega)); (first | omega | (simp <;> omega)))) | (refine WP_cond rfl (fun h => ?_) (fun h => ?_) <;> (fail_if_success (have hh : true = true := h)) <;> (fail_if_success (have hh : false = false := h)) <;> (try simp only [decide_eq_true_eq, decide_eq_false_iff_not, Bool.not_eq_true', Bool.not_eq_false', Int.not_lt, Int.not_le] at h) <;> (try (exfalso; omega))))
  · refine end1 rfl rfl ⟨rb ?_, S.below⟩
    symm; rw [decide_eq_false_iff_not]; rintro rfl
    simp at h
  · refine ⟨⟨_, ?_, i + 1, ⟨rfl, rfl, rfl, trivial⟩, S, by omega, by omega, rfl, fun j h0 h1 => ?_⟩⟩
    · omega
    · by_cases e : j = i
      · subst e; first | exact h | exact of_decide_eq_true h
      · exact hall j h0 (by omega)
  · refine end1 rfl rfl ⟨rb ?_, S.below⟩
    symm; rw [decide_eq_true_iff]
    exact ext_nth (by omega) fun j h0 h1 => hall j h0 (by omega)

/-- The chapter's deeds. -/
def exL (t : Int) : List GDeed := [⟨1, 1, 0, 3, 5, 100, 0⟩, ⟨2, 1, 0, 0, 2, 0, t⟩, ⟨3, 1, 2, 4, 1, 0, 20⟩, ⟨4, 1, 0, 0, 1, 0, 100⟩]
theorem example_run {t : Int} {w : World} : CallsR Tryd.prog 26 #[.int .i64 t] w (fun v w' => NewRow fGDeed 36 w w' v (exL t)) := by
  have S := St.start w
  refine CallsR.mk ?_
  refine calls_enter Tryd.func26 rfl (by intro _ h; first | exact nomatch h.1 | (obtain ⟨_, h, _⟩ := h; exact nomatch h)) Tryd.ntmps26 rfl ?_
  repeat' (first | refine WP_seq ?_ | refine WP_region ?_ | refine wl_nil ?_ | refine then_normal ?_ | (refine g_move ?_; refine st_move rfl ?_) | (refine g_assign ?_; refine st_assign rfl ?_) | (refine g_build ?_; first | refine st_val rfl (bd36_0_1_2_3_4_6 rfl rfl rfl rfl rfl rfl) ?_ | refine st_val rfl (bd36_0_1_3_4_5 rfl rfl rfl rfl rfl) ?_ | refine st_val rfl (bd36_0_1_4_6 rfl rfl rfl rfl) ?_))
  refine st_valE rfl (r_litF (D := fGDeed) (exL t) (fun x => .agg x.enc.toArray) S rfl rfl (fun _ => rfl) rfl (by decide) (by decide)) ?_
  rintro _ w ⟨bl, rfl, -, -, S'⟩; replace S := S'; clear S'
  repeat' (first | refine wl_nil ?_ | refine then_normal ?_ | refine WP_ret ?_ | (refine g_assign ?_; refine st_assign rfl ?_))
  exact end1 rfl rfl ⟨_, rfl, S.below, S.row (i := 0) rfl⟩
end Go.Proofs.YtgdmaadikcnagaaDoor
/- The chapter's examples. -/
namespace Go.Proofs.YtgdmaadikcnagaaDoor
open Go Go.Gx Go.RowKit
set_option linter.unusedVariables false
set_option linter.unusedSimpArgs false

def exD : List GDebt := [⟨1, 1, 2, 100⟩, ⟨2, 2, 3, 50⟩]
def exO : List GOpening := [⟨10, 2⟩, ⟨40, 2⟩, ⟨60, 3⟩]
def exA : List GServing := [⟨2, 10, 2⟩, ⟨2, 40, 1⟩, ⟨1, 40, 1⟩, ⟨1, 60, 1⟩]
def exB : List GServing := [⟨2, 40, 2⟩, ⟨1, 60, 2⟩]
theorem perm_two {α : Type} {l : List α} {a b : α} (h : l.Perm [a, b]) : l = [a, b] ∨ l = [b, a] := by
  match l, h.length_eq with
  | [x, y], _ =>
    have hx := h.mem_iff.1 (List.mem_cons_self : x ∈ [x, y])
    rcases List.mem_cons.1 hx with rfl | hx
    · have := (List.perm_cons x).1 h
      have := List.perm_singleton.1 this
      left; rw [List.cons.injEq] at this; rw [this.1]
    · have hx := List.mem_singleton.1 hx
      subst hx
      have h2 : [x, y].Perm [x, a] := h.trans (List.Perm.swap ..)
      have := List.perm_singleton.1 ((List.perm_cons x).1 h2)
      right; rw [List.cons.injEq] at this; rw [this.1]
theorem exD_sorted {l : List GDebt} (h : StD exD l) : l = [⟨2, 2, 3, 50⟩, ⟨1, 1, 2, 100⟩] := by
  rcases perm_two h.perm with e | e
  · have := h.srt
    rw [e] at this
    have := (List.pairwise_cons.1 this).1 50 (by simp)
    simp at this
  · exact e
theorem plan_is {ds : List GDebt} {os : List GOpening} {now er : Int} {all : Bool} {out : List GServing} {v1 v2 : Value} {w0 : World} (hE : ∀ (o : List GServing) (a : Bool) (e : Int), (if validI ds os now = true then e = 0 ∧ o.length ≤ 1000 ∧ ∃ l, StD ds l ∧ o = (planF now os l).1 ∧ a = (!(planF now os l).2.2 && decide ((planF now os l).2.1 = [])) else e = 140 ∧ o = [] ∧ a = false) → o = out ∧ a = all ∧ e = er)
    (hr1 : Rd fGDebt.ty w0 v1 ds) (hr2 : Rd fGOpening.ty w0 v2 os) (hl1 : ds.length ≤ 1000000) (hl2 : os.length ≤ 1000000) :
    CallsR Tryd.prog 16 #[v1, v2, .int .i64 now] w0 (fun v w' => ∃ vo, v = .tuple #[vo, .bool all, .int .i64 er] ∧ NewRow fGServing 56 w0 w' vo out) :=
  callsR_mono (plan_run hr1 hr2 hl1 hl2) fun v w' h => by
    obtain ⟨vo, o, a, e, rfl, hrow, hif⟩ := h.ex
    obtain ⟨rfl, rfl, rfl⟩ := hE o a e hif
    exact ⟨vo, rfl, hrow⟩
theorem lack_is {ds : List GDebt} {os : List GOpening} {now n : Int} {b : Bool} {v1 v2 : Value} {w0 : World} (hv : validI ds os now = true) (hE : IsLack now ds os n b)
    (hr1 : Rd fGDebt.ty w0 v1 ds) (hr2 : Rd fGOpening.ty w0 v2 os) (hl1 : ds.length ≤ 1000000) (hl2 : os.length ≤ 1000000) :
    CallsV Tryd.prog 17 #[v1, v2, .int .i64 now] w0 (.tuple #[.int .i64 n, .bool b]) := by
  refine ⟨Calls.mono (lack_run (now := now) hr1 hr2 hl1 hl2).out fun e w' ⟨v, he, hb, hR⟩ => ⟨?_, hb⟩⟩
  obtain ⟨m, c, rfl, hif⟩ := hR.ex
  rw [if_pos hv] at hif
  obtain ⟨rfl, rfl⟩ := hif.uniq hE
  exact he
theorem fold_is {l : List GDeed} {ds : List GDebt} {sm : GSums} {n er : Int} {v : Value} {w0 : World} (hE : foldI l = (ds, sm, n, er)) (hK : KindsAt w0) (hr : Rd fGDeed.ty w0 v l) (hl : l.length ≤ 1000000000) :
    CallsR Tryd.prog 12 #[v] w0 (fun v w' => ∃ vd, v = .tuple #[vd, .agg sm.enc.toArray, .int .i64 n, .int .i64 er] ∧ NewRow fGDebt 33 w0 w' vd ds) :=
  callsR_mono (fold_run hK hr hl) fun v w' h => by
    obtain ⟨vd, ds', sm', n', er', rfl, hrow, he⟩ := h.ex
    rw [hE] at he
    cases he
    exact ⟨vd, rfl, hrow⟩
theorem owe_is {l : List GContract} {sp : List GSpot} {now due id er : Int} {out : List GDeed} {v1 v2 : Value} {w0 : World} (hE : oweI l sp now due id = (out, er)) (hr1 : Rd fGContract.ty w0 v1 l) (hr2 : Rd fGSpot.ty w0 v2 sp) (hl : l.length ≤ 1000000000) (hl2 : sp.length ≤ 1000000000) (hG : TblAt w0) :
    CallsR Tryd.prog 25 #[v1, v2, .int .i64 now, .int .i64 due, .int .i64 id] w0 (fun v w' => ∃ vo, v = .tuple #[vo, .int .i64 er] ∧ NewRow fGDeed 36 w0 w' vo out) :=
  callsR_mono (owe_run hr1 hr2 hl hl2 hG) fun v w' h => by rw [hE] at h; exact h
theorem check_is {ds : List GDebt} {os : List GOpening} {now : Int} {l : List GServing} {b : Bool} {v1 v2 v3 : Value} {w0 : World} (hE : checkI ds os now l = b) (hr1 : Rd fGDebt.ty w0 v1 ds) (hr2 : Rd fGOpening.ty w0 v2 os) (hr3 : Rd fGServing.ty w0 v3 l) (hl1 : ds.length ≤ 1000000) (hl2 : os.length ≤ 1000000) (hl3 : l.length ≤ 1000000000) :
    CallsV Tryd.prog 18 #[v1, v2, .int .i64 now, v3] w0 (.bool b) := by rw [← hE]; exact check_run hr1 hr2 hr3 hl1 hl2 hl3
theorem validV_is {ds : List GDebt} {os : List GOpening} {now : Int} {b : Bool} {v1 v2 : Value} {w0 : World} (hE : validI ds os now = b) (hr1 : Rd fGDebt.ty w0 v1 ds) (hr2 : Rd fGOpening.ty w0 v2 os) (hl1 : ds.length ≤ 1000000000) (hl2 : os.length ≤ 1000000000) :
    CallsV Tryd.prog 29 #[v1, v2, .int .i64 now] w0 (.bool b) := by rw [← hE]; exact validI_spec hr1 hr2 hl1 hl2
theorem sameD_is {l m : List GDebt} {b : Bool} {v v2 : Value} {w : World} (hE : decide (l = m) = b) (hr : Rd fGDebt.ty w v l) (hr2 : Rd fGDebt.ty w v2 m) (hl : l.length ≤ 1000000000) (hm : m.length ≤ 1000000000) : CallsV Tryd.prog 28 #[v, v2] w (.bool b) := by rw [← hE]; exact sameD_spec hr hr2 hl hm
theorem sameS_is {l m : List GServing} {b : Bool} {v v2 : Value} {w : World} (hE : decide (l = m) = b) (hr : Rd fGServing.ty w v l) (hr2 : Rd fGServing.ty w v2 m) (hl : l.length ≤ 1000000000) (hm : m.length ≤ 1000000000) : CallsV Tryd.prog 27 #[v, v2] w (.bool b) := by rw [← hE]; exact sameS_spec hr hr2 hl hm
theorem exV0 : validI exD exO 0 = true := by decide +kernel
theorem exV20 : validI exD exO 20 = true := by decide +kernel
theorem exP0 {o : List GServing} {a : Bool} {e : Int} (h : if validI exD exO 0 = true then e = 0 ∧ o.length ≤ 1000 ∧ ∃ l, StD exD l ∧ o = (planF 0 exO l).1 ∧ a = (!(planF 0 exO l).2.2 && decide ((planF 0 exO l).2.1 = [])) else e = 140 ∧ o = [] ∧ a = false) : o = exA ∧ a = true ∧ e = 0 := by
  rw [if_pos exV0] at h
  obtain ⟨h1, _, l, hl, h2, h3⟩ := h
  rw [exD_sorted hl] at h2 h3
  exact ⟨h2.trans (by decide +kernel), h3.trans (by decide +kernel), h1⟩
theorem exP20 {o : List GServing} {a : Bool} {e : Int} (h : if validI exD exO 20 = true then e = 0 ∧ o.length ≤ 1000 ∧ ∃ l, StD exD l ∧ o = (planF 20 exO l).1 ∧ a = (!(planF 20 exO l).2.2 && decide ((planF 20 exO l).2.1 = [])) else e = 140 ∧ o = [] ∧ a = false) : o = exB ∧ a = false ∧ e = 0 := by
  rw [if_pos exV20] at h
  obtain ⟨h1, _, l, hl, h2, h3⟩ := h
  rw [exD_sorted hl] at h2 h3
  exact ⟨h2.trans (by decide +kernel), h3.trans (by decide +kernel), h1⟩
theorem exPn {o : List GServing} {a : Bool} {e : Int} (h : if validI exD exO (-1) = true then e = 0 ∧ o.length ≤ 1000 ∧ ∃ l, StD exD l ∧ o = (planF (-1) exO l).1 ∧ a = (!(planF (-1) exO l).2.2 && decide ((planF (-1) exO l).2.1 = [])) else e = 140 ∧ o = [] ∧ a = false) : o = [] ∧ a = false ∧ e = 140 := by
  rw [if_neg (by decide +kernel)] at h
  exact ⟨h.2.1, h.2.2, h.1⟩
theorem exL20 : IsLack 20 exD exO 50 true := by
  refine .inl ⟨rfl, ⟨⟨2, 2, 3, 50⟩, by simp [exD], rfl⟩, by decide +kernel, fun d hd h => ?_⟩
  simp [exD] at hd
  rcases hd with rfl | rfl <;> simp at h
theorem exL0 : IsLack 0 exD exO 0 false := by
  refine .inr ⟨rfl, rfl, fun d hd => ?_⟩
  simp [exD] at hd
  rcases hd with rfl | rfl <;> decide +kernel
theorem exF10 : foldI (exL 10) = ([⟨1, 3, 1, 100⟩, ⟨2, 4, 1, 100⟩], ⟨5, 2, 1, 1, 2⟩, 4, 0) := by decide +kernel
theorem exF100 : foldI (exL 100) = ([], ⟨0, 0, 0, 0, 0⟩, 1, 140) := by decide +kernel
theorem exC0 : checkI exD exO 0 exA = true := by decide +kernel
theorem exC20 : checkI exD exO 20 exB = false := by decide +kernel
end Go.Proofs.YtgdmaadikcnagaaDoor
/- The examples of the chapter, walked. -/
namespace Go.Proofs.YtgdmaadikcnagaaDoor
open Go Go.Gx Go.RowKit
set_option linter.unusedVariables false
set_option linter.unusedSimpArgs false

theorem wl_forgetD {P : Program} {n : Nat} {ops : Array Oper} {Q : Post} {σ : Nat → Value} {w : World} {rest : List Oper} (L : List (Nat × Value)) (h : Has σ L) (k : ∀ σ', Has σ' L → wl P n ops Q rest σ' w) : wl P n ops Q rest σ w := k σ h
theorem exOwe : oweI [default] [] 0 1 0 = ([], 140) := by decide +kernel
set_option maxHeartbeats 4000000 in
theorem sane_spec {w0 : World} (hG : TblAt w0) (hK : KindsAt w0) : CallsV Tryd.prog 10 #[] w0 (.bool true) := by
  have S := St.start w0
  refine CallsV.mk ?_
  refine calls_enter Tryd.func10 rfl (by intro _ h; first | exact nomatch h.1 | (obtain ⟨_, h, _⟩ := h; exact nomatch h)) Tryd.ntmps10 rfl ?_
  repeat' (first | refine WP_seq ?_ | refine WP_region ?_ | refine wl_nil ?_ | refine then_normal ?_ | (refine g_assign ?_; refine st_assign rfl ?_) | (refine g_build ?_; refine st_val rfl (bd33_0_1_2_3 rfl rfl rfl rfl) ?_))
  refine st_valE rfl (r_litF (D := fGDebt) exD (fun x => .agg x.enc.toArray) S rfl rfl (fun _ => rfl) rfl (by decide) (by decide)) ?_
  rintro _ w ⟨k1, rfl, -, -, S'⟩; replace S := S'; clear S'
  repeat' (first | refine WP_seq ?_ | refine WP_region ?_ | refine wl_nil ?_ | refine then_normal ?_ | (refine g_assign ?_; refine st_assign rfl ?_) | (refine g_build ?_; refine st_val rfl (bd52_0_1 rfl rfl) ?_))
  refine st_valE rfl (r_litF (D := fGOpening) exO (fun x => .agg x.enc.toArray) S rfl rfl (fun _ => rfl) rfl (by decide) (by decide)) ?_
  rintro _ w ⟨k2, rfl, -, -, S'⟩; replace S := S'; clear S'
  repeat' (first | refine WP_seq ?_ | refine WP_region ?_ | refine wl_nil ?_ | refine then_normal ?_ | (refine g_move ?_; refine st_move rfl ?_) | (refine g_assign ?_; refine st_assign rfl ?_))
  refine st_callR rfl (r_call3 rfl rfl rfl rfl) (plan_is (fun o a e => exP0) (S.rdRow (D := fGDebt) (i := 0) rfl) (S.rdRow (D := fGOpening) (i := 1) rfl) (by decide) (by decide)) ?_
  rintro _ w hb ⟨va, rfl, hrow⟩; replace S := S.new hb hrow; clear hb hrow
  repeat' (first | refine WP_seq ?_ | refine WP_region ?_ | refine wl_nil ?_ | refine then_normal ?_ | (refine g_move ?_; refine st_move rfl ?_) | (refine g_assign ?_; refine st_assign rfl ?_) | (refine g_extract ?_; refine st_val rfl (r_extract rfl rfl) ?_))
  refine st_callR rfl (r_call3 rfl rfl rfl rfl) (plan_is (fun o a e => exP20) (S.rdRow (D := fGDebt) (i := 0) rfl) (S.rdRow (D := fGOpening) (i := 1) rfl) (by decide) (by decide)) ?_
  rintro _ w hb ⟨vb, rfl, hrow⟩; replace S := S.new hb hrow; clear hb hrow
  repeat' (first | refine WP_seq ?_ | refine WP_region ?_ | refine wl_nil ?_ | refine then_normal ?_ | (refine g_move ?_; refine st_move rfl ?_) | (refine g_assign ?_; refine st_assign rfl ?_) | (refine g_extract ?_; refine st_val rfl (r_extract rfl rfl) ?_) | (refine g_callV ?_; first | (refine st_callV rfl (r_call3 rfl rfl rfl rfl) (lack_is exV20 exL20 (S.rdRow (D := fGDebt) (i := 0) rfl) (S.rdRow (D := fGOpening) (i := 1) rfl) (by decide) (by decide)) ?_; intro w hb; replace S := S.grow hb; clear hb) | (refine st_callV rfl (r_call3 rfl rfl rfl rfl) (lack_is exV0 exL0 (S.rdRow (D := fGDebt) (i := 0) rfl) (S.rdRow (D := fGOpening) (i := 1) rfl) (by decide) (by decide)) ?_; intro w hb; replace S := S.grow hb; clear hb)))
  refine st_callR rfl (r_call1 rfl rfl) example_run ?_
  rintro vx w hb hrow; replace S := S.new hb hrow; clear hb hrow
  refine st_callR rfl (r_call1 rfl rfl) (fold_is exF10 (hK.mono S.below) (S.rdRow (D := fGDeed) (i := 4) rfl) (by decide)) ?_
  rintro _ w hb ⟨vd, rfl, hrow⟩; replace S := S.new hb hrow; clear hb hrow
  repeat' (first | refine WP_seq ?_ | refine WP_region ?_ | refine wl_nil ?_ | refine then_normal ?_ | (refine g_move ?_; refine st_move rfl ?_) | (refine g_assign ?_; refine st_assign rfl ?_) | (refine g_extract ?_; refine st_val rfl (r_extract rfl rfl) ?_) | (refine g_alloc ?_; refine st_valE rfl (r_alloc S) ?_; rintro _ w ⟨b, rfl, -, S'⟩; replace S := S'; clear S') | (refine g_store ?_; first | (refine st_skipE rfl (r_storeVar (i := 0) S rfl rfl rfl rfl (of_decide_eq_true rfl) (of_decide_eq_true rfl)) ?_; intro w S'; replace S := S'; clear S') | (refine st_skipE rfl (r_storeVar (i := 1) S rfl rfl rfl rfl (of_decide_eq_true rfl) (of_decide_eq_true rfl)) ?_; intro w S'; replace S := S'; clear S') | (refine st_skipE rfl (r_storeVar (i := 2) S rfl rfl rfl rfl (of_decide_eq_true rfl) (of_decide_eq_true rfl)) ?_; intro w S'; replace S := S'; clear S') | (refine st_skipE rfl (r_storeVar (i := 3) S rfl rfl rfl rfl (of_decide_eq_true rfl) (of_decide_eq_true rfl)) ?_; intro w S'; replace S := S'; clear S') | (refine st_skipE rfl (r_storeVar (i := 4) S rfl rfl rfl rfl (of_decide_eq_true rfl) (of_decide_eq_true rfl)) ?_; intro w S'; replace S := S'; clear S') | (refine st_skipE rfl (r_storeVar (i := 5) S rfl rfl rfl rfl (of_decide_eq_true rfl) (of_decide_eq_true rfl)) ?_; intro w S'; replace S := S'; clear S') | (refine st_skipE rfl (r_storeVar (i := 6) S rfl rfl rfl rfl (of_decide_eq_true rfl) (of_decide_eq_true rfl)) ?_; intro w S'; replace S := S'; clear S') | (refine st_skipE rfl (r_storeVar (i := 7) S rfl rfl rfl rfl (of_decide_eq_true rfl) (of_decide_eq_true rfl)) ?_; intro w S'; replace S := S'; clear S')))
  refine st_callR rfl (r_call1 rfl rfl) example_run ?_
  rintro vx2 w hb hrow; replace S := S.new hb hrow; clear hb hrow
  refine st_callR rfl (r_call1 rfl rfl) (fold_is exF100 (hK.mono S.below) (S.rdRow (D := fGDeed) (i := 7) rfl) (by decide)) ?_
  rintro _ w hb ⟨vd2, rfl, hrow⟩; replace S := S.new hb hrow; clear hb hrow
  repeat' (first | (refine g_move ?_; refine st_move rfl ?_) | (refine g_extract ?_; refine st_val rfl (r_extract rfl rfl) ?_))
  refine g_alloc ?_
  refine st_valE rfl (r_alloc S) ?_
  rintro _ w ⟨b9, rfl, -, S'⟩; replace S := S'; clear S'
  repeat' (first | refine WP_seq ?_ | refine WP_region ?_ | refine wl_nil ?_ | refine then_normal ?_ | (refine g_assign ?_; refine st_assign rfl ?_) | (refine g_build ?_; refine st_val rfl (bd76_ ) ?_) | (refine g_store ?_; first | (refine st_skipE rfl (r_storeVar (i := 0) S rfl rfl rfl rfl (of_decide_eq_true rfl) (of_decide_eq_true rfl)) ?_; intro w S'; replace S := S'; clear S') | (refine st_skipE rfl (r_storeVar (i := 1) S rfl rfl rfl rfl (of_decide_eq_true rfl) (of_decide_eq_true rfl)) ?_; intro w S'; replace S := S'; clear S') | (refine st_skipE rfl (r_storeVar (i := 2) S rfl rfl rfl rfl (of_decide_eq_true rfl) (of_decide_eq_true rfl)) ?_; intro w S'; replace S := S'; clear S') | (refine st_skipE rfl (r_storeVar (i := 3) S rfl rfl rfl rfl (of_decide_eq_true rfl) (of_decide_eq_true rfl)) ?_; intro w S'; replace S := S'; clear S') | (refine st_skipE rfl (r_storeVar (i := 4) S rfl rfl rfl rfl (of_decide_eq_true rfl) (of_decide_eq_true rfl)) ?_; intro w S'; replace S := S'; clear S') | (refine st_skipE rfl (r_storeVar (i := 5) S rfl rfl rfl rfl (of_decide_eq_true rfl) (of_decide_eq_true rfl)) ?_; intro w S'; replace S := S'; clear S') | (refine st_skipE rfl (r_storeVar (i := 6) S rfl rfl rfl rfl (of_decide_eq_true rfl) (of_decide_eq_true rfl)) ?_; intro w S'; replace S := S'; clear S') | (refine st_skipE rfl (r_storeVar (i := 7) S rfl rfl rfl rfl (of_decide_eq_true rfl) (of_decide_eq_true rfl)) ?_; intro w S'; replace S := S'; clear S') | (refine st_skipE rfl (r_storeVar (i := 8) S rfl rfl rfl rfl (of_decide_eq_true rfl) (of_decide_eq_true rfl)) ?_; intro w S'; replace S := S'; clear S') | (refine st_skipE rfl (r_storeVar (i := 9) S rfl rfl rfl rfl (of_decide_eq_true rfl) (of_decide_eq_true rfl)) ?_; intro w S'; replace S := S'; clear S')))
  refine st_valE rfl (r_litF (D := fGContract) [default] (fun y => .agg y.enc.toArray) S rfl rfl (fun _ => rfl) rfl (by decide) (by decide)) ?_
  rintro _ w ⟨k3, rfl, -, -, S'⟩; replace S := S'; clear S'
  refine st_callR rfl (r_call5 rfl rfl rfl rfl rfl rfl) (owe_is exOwe (S.rdRow (D := fGContract) (i := 10) rfl) (Rd.nil fGSpot.ty w) (by decide) (by decide) (hG.mono S.below)) ?_
  rintro _ w hb ⟨vo, rfl, -⟩; replace S := S.grow hb; clear hb
  repeat' (first | refine WP_seq ?_ | refine WP_region ?_ | refine wl_nil ?_ | refine then_normal ?_ | (refine g_move ?_; refine st_move rfl ?_) | (refine g_assign ?_; refine st_assign rfl ?_) | (refine g_extract ?_; refine st_val rfl (r_extract rfl rfl) ?_))
  refine st_callR rfl (r_call3 rfl rfl rfl rfl) (plan_is (fun o a e => exPn) (S.rdRow (D := fGDebt) (i := 0) rfl) (S.rdRow (D := fGOpening) (i := 1) rfl) (by decide) (by decide)) ?_
  rintro _ w hb ⟨vn, rfl, -⟩; replace S := S.grow hb; clear hb
  replace S : St w0 w [rowOb fGDebt 33 (.slice (some ⟨k1, 0, none⟩) 2 2) exD, rowOb fGOpening 52 (.slice (some ⟨k2, 0, none⟩) 3 3) exO, rowOb fGServing 56 va exA, rowOb fGServing 56 vb exB, rowOb fGDebt 33 vd [⟨1, 3, 1, 100⟩, ⟨2, 4, 1, 100⟩], .var b 28 (GSums.mk 5 2 1 1 2).enc] := S.keep [true, true, true, true, false, true, true]
  repeat' (first | refine WP_seq ?_ | refine WP_region ?_ | refine wl_nil ?_ | refine then_normal ?_ | refine WP_skip ?_ | refine WP_condF rfl ?_ | (refine g_move ?_; refine st_move rfl ?_) | (refine g_assign ?_; refine st_assign rfl ?_) | (refine g_pick ?_; refine st_pickF rfl rfl ?_) | (refine g_b_neq ?_; refine st_val rfl (r_neq rfl rfl) ?_) | (refine g_build ?_; refine st_val rfl (bd56_0_1_2 rfl rfl rfl) ?_) | (refine g_un ?_; refine st_val rfl (r_not rfl) ?_) | (refine g_extract ?_; refine st_val rfl (r_extract rfl rfl) ?_))
  refine wl_forgetD [(1, .slice (some ⟨k1, 0, none⟩) 2 2), (2, .slice (some ⟨k2, 0, none⟩) 3 3), (3, va), (6, vb), (9, .int .i64 50), (13, vd), (14, .pointer (some ⟨b, 0, none⟩)), (15, .int .i64 4), (19, .int .i64 1), (124, va), (125, .agg (GServing.enc ⟨2, 10, 2⟩).toArray), (126, .agg (GServing.enc ⟨2, 40, 1⟩).toArray), (127, .agg (GServing.enc ⟨1, 40, 1⟩).toArray), (128, .agg (GServing.enc ⟨1, 60, 1⟩).toArray)] ⟨rfl, rfl, rfl, rfl, rfl, rfl, rfl, rfl, rfl, rfl, rfl, rfl, rfl, rfl, trivial⟩ ?_
  intro σ hs
  refine wl_has hs ?_
  skip
  refine st_valE rfl (r_litF (D := fGServing) exA (fun y => .agg y.enc.toArray) S rfl rfl (fun _ => rfl) rfl (by decide) (by decide)) ?_
  rintro _ w ⟨k4, rfl, -, -, S'⟩; replace S := S'; clear S'
  repeat' (first | (refine g_move ?_; refine st_move rfl ?_) | (refine g_build ?_; refine st_val rfl (bd56_0_1_2 rfl rfl rfl) ?_) | (refine g_callV ?_; (refine st_callV rfl (r_call2 rfl rfl rfl) (sameS_is (l := exA) (m := exA) (b := true) (by decide +kernel) (S.rdRow (D := fGServing) (i := 2) rfl) (S.rdRow (D := fGServing) (i := 6) rfl) (by decide) (by decide)) ?_; intro w hb; replace S := S.grow hb; clear hb)))
  refine st_valE rfl (r_litF (D := fGServing) exB (fun y => .agg y.enc.toArray) S rfl rfl (fun _ => rfl) rfl (by decide) (by decide)) ?_
  rintro _ w ⟨k5, rfl, -, -, S'⟩; replace S := S'; clear S'
  repeat' (first | refine WP_seq ?_ | refine WP_region ?_ | refine wl_nil ?_ | refine then_normal ?_ | (refine g_move ?_; refine st_move rfl ?_) | (refine g_assign ?_; refine st_assign rfl ?_) | (refine g_pick ?_; refine st_pickT rfl rfl ?_) | (refine g_build ?_; refine st_val rfl (bd33_0_1_2_3 rfl rfl rfl rfl) ?_) | (refine g_callV ?_; (refine st_callV rfl (r_call2 rfl rfl rfl) (sameS_is (l := exB) (m := exB) (b := true) (by decide +kernel) (S.rdRow (D := fGServing) (i := 3) rfl) (S.rdRow (D := fGServing) (i := 7) rfl) (by decide) (by decide)) ?_; intro w hb; replace S := S.grow hb; clear hb)))
  refine st_valE rfl (r_litF (D := fGDebt) [⟨1, 3, 1, 100⟩, ⟨2, 4, 1, 100⟩] (fun y => .agg y.enc.toArray) S rfl rfl (fun _ => rfl) rfl (by decide) (by decide)) ?_
  rintro _ w ⟨k6, rfl, -, -, S'⟩; replace S := S'; clear S'
  repeat' (first | refine WP_seq ?_ | refine WP_region ?_ | refine wl_nil ?_ | refine then_normal ?_ | refine WP_ret ?_ | (refine g_move ?_; refine st_move rfl ?_) | (refine g_assign ?_; refine st_assign rfl ?_) | (refine g_pick ?_; refine st_pickT rfl rfl ?_) | (refine g_b_eql ?_; first | refine st_val rfl (r_eql rfl rfl) ?_ | refine st_val rfl (eql28 rfl rfl) ?_) | (refine g_build ?_; refine st_val rfl (bd28_0_1_2_3_4 rfl rfl rfl rfl rfl) ?_) | (refine g_un ?_; refine st_val rfl (r_not rfl) ?_) | (refine g_load ?_; refine st_val rfl (r_loadVarA (i := 5) S rfl rfl rfl rfl) ?_) | (refine g_callV ?_; first | (refine st_callV rfl (r_call2 rfl rfl rfl) (sameD_is (l := [⟨1, 3, 1, 100⟩, ⟨2, 4, 1, 100⟩]) (m := [⟨1, 3, 1, 100⟩, ⟨2, 4, 1, 100⟩]) (b := true) (by decide +kernel) (S.rdRow (D := fGDebt) (i := 4) rfl) (S.rdRow (D := fGDebt) (i := 8) rfl) (by decide) (by decide)) ?_; intro w hb; replace S := S.grow hb; clear hb) | (refine st_callV rfl (r_call4 rfl rfl rfl rfl rfl) (check_is exC0 (S.rdRow (D := fGDebt) (i := 0) rfl) (S.rdRow (D := fGOpening) (i := 1) rfl) (S.rdRow (D := fGServing) (i := 2) rfl) (by decide) (by decide) (by decide)) ?_; intro w hb; replace S := S.grow hb; clear hb) | (refine st_callV rfl (r_call4 rfl rfl rfl rfl rfl) (check_is exC20 (S.rdRow (D := fGDebt) (i := 0) rfl) (S.rdRow (D := fGOpening) (i := 1) rfl) (S.rdRow (D := fGServing) (i := 3) rfl) (by decide) (by decide) (by decide)) ?_; intro w hb; replace S := S.grow hb; clear hb) | (refine st_callV rfl (r_call3 rfl rfl rfl rfl) (validV_is exV0 (S.rdRow (D := fGDebt) (i := 0) rfl) (S.rdRow (D := fGOpening) (i := 1) rfl) (by decide) (by decide)) ?_; intro w hb; replace S := S.grow hb; clear hb)))
  all_goals exact end1 rfl rfl ⟨rfl, S.below⟩
end Go.Proofs.YtgdmaadikcnagaaDoor
/- Debts and openings that integers determine. -/
namespace Go.Proofs.YtgdmaadikcnagaaDoor
open Go Go.Gx Go.RowKit
set_option linter.unusedVariables false
set_option linter.unusedSimpArgs false

end Go.Proofs.YtgdmaadikcnagaaDoor
/- Plan makes good for all debts exactly if Lack finds nothing; Check accepts such a plan; what Lack finds is a deadline before which there is not enough room. -/
namespace Go.Proofs.YtgdmaadikcnagaaDoor
open Go Go.Gx Go.RowKit
set_option linter.unusedVariables false
set_option linter.unusedSimpArgs false

end Go.Proofs.YtgdmaadikcnagaaDoor
/- With a further opening, or more room at one, Plan serves at least as much in all; and so it does with a later due of a debt. -/
namespace Go.Proofs.YtgdmaadikcnagaaDoor
open Go Go.Gx Go.RowKit
set_option linter.unusedVariables false
set_option linter.unusedSimpArgs false

end Go.Proofs.YtgdmaadikcnagaaDoor
/- What is owed of contracts, in plain. -/
namespace Go.Proofs.YtgdmaadikcnagaaDoor
open Go Go.Gx Go.RowKit
set_option linter.unusedVariables false
set_option linter.unusedSimpArgs false

/-! No contract has more that counts than its count. -/
theorem rsn_less {l : List GContract} {cnt : List GSpot} {x : GSpot} (e : rsn l cnt x = 0) : ∃ c, cFind l x.Contract = some c ∧ cntC cnt x.Contract < c.Count := by
  unfold rsn at e
  cases h : cFind l x.Contract with
  | none => rw [h] at e; simp at e
  | some c =>
    refine ⟨c, rfl, ?_⟩
    rw [h] at e
    simp only at e
    by_cases h4 : c.Count ≤ cntC cnt x.Contract
    · exfalso
      revert e
      rw [decide_eq_true h4]
      simp only [if_true]
      repeat' split
      all_goals omega
    · omega
theorem cnt_fold {l : List GContract} {sp : List GSpot} : ∀ (t o : List Int), (∀ (id : Int) (c : GContract), cFind l id = some c → cntC (spAt sp o) id ≤ c.Count) → ∀ (id : Int) (c : GContract), cFind l id = some c → cntC (spAt sp (t.foldl (stepO l sp) o)) id ≤ c.Count
  | [], o, h => h
  | a :: t, o, h => by
    refine cnt_fold t (stepO l sp o a) ?_
    unfold stepO
    split
    · rename_i h0
      intro id c hc
      have e : spAt sp (o ++ [a]) = spAt sp o ++ [nth sp a] := List.map_append
      rw [e, cntC_snoc]
      have := h id c hc
      split
      · rename_i he
        obtain ⟨c', h1, h2⟩ := rsn_less h0
        rw [he, hc] at h1
        cases h1
        rw [he] at h2; omega
      · omega
    · exact h
theorem validC_inc {l : List GContract} (h : validC l = true) : l.Pairwise fun a b => a.ID < b.ID := by
  have hlt : ∀ (j i : Int), 0 ≤ i → i < j → j < l.length → (nth l i).ID < (nth l j).ID := by
    intro j
    have aux : ∀ (n : Nat) (i : Int), 0 ≤ i → i + 1 + n < l.length → (nth l i).ID < (nth l (i + 1 + n)).ID := by
      intro n
      induction n with
      | zero =>
        intro i h0 hn
        have := validC_at h (j := i + 1) (by omega) (by omega)
        unfold okAt prevC at this
        rw [if_neg (by omega)] at this
        simp only [Bool.and_eq_true, decide_eq_true_eq] at this
        have h2 := this.2
        rw [show i + 1 - 1 = i by omega] at h2
        rw [show i + 1 + ((0 : Nat) : Int) = i + 1 by omega]
        exact h2
      | succ n ih =>
        intro i h0 hn
        have h1 := ih i h0 (by omega)
        have := validC_at h (j := i + 1 + (n + 1 : Nat)) (by omega) (by omega)
        unfold okAt prevC at this
        rw [if_neg (by omega)] at this
        simp only [Bool.and_eq_true, decide_eq_true_eq] at this
        have h2 := this.2
        rw [show i + 1 + ((n + 1 : Nat) : Int) - 1 = i + 1 + n by omega] at h2
        omega
    intro i h0 hij hj
    have := aux (j - i - 1).toNat i h0 (by omega)
    rw [show i + 1 + ((j - i - 1).toNat : Int) = j by omega] at this
    exact this
  refine List.pairwise_iff_getElem.2 fun i j hi hj hij => ?_
  have := hlt j i (by omega) (by omega) (by omega)
  have e1 := nth_get (l := l) (i := (i : Int)) (by omega) (by omega)
  have e2 := nth_get (l := l) (i := (j : Int)) (by omega) (by omega)
  rw [Int.toNat_natCast, List.getElem?_eq_getElem hi] at e1
  rw [Int.toNat_natCast, List.getElem?_eq_getElem hj] at e2
  rw [Option.some.inj e1, Option.some.inj e2]; exact this
theorem cFind_of : ∀ {l : List GContract} {c : GContract}, l.Pairwise (fun a b => a.ID < b.ID) → c ∈ l → cFind l c.ID = some c
  | [], _, _, h => by cases h
  | a :: r, c, hp, h => by
    obtain ⟨h1, h2⟩ := List.pairwise_cons.1 hp
    unfold cFind
    rw [List.find?_cons]
    by_cases e : a.ID = c.ID
    · rw [decide_eq_true e]
      rcases List.mem_cons.1 h with rfl | h
      · rfl
      · have := h1 c h; omega
    · rw [decide_eq_false e]
      rcases List.mem_cons.1 h with rfl | h
      · exact absurd rfl e
      · exact cFind_of h2 h
theorem cntS_le {l : List GContract} {sp : List GSpot} (hv : validC l = true) {c : GContract} (hc : c ∈ l) : cntC (cntS l sp) c.ID ≤ c.Count := by
  refine cnt_fold (l := l) (sp := sp) (ordI sp) [] (fun id d hd => ?_) c.ID c (cFind_of (validC_inc hv) hc)
  have := valid_ok hv (cFind_mem hd)
  unfold okC okN at this
  simp only [Bool.and_eq_true, decide_eq_true_eq] at this
  show cntC [] id ≤ _
  simp only [cntC, List.countP_nil]; omega
/-! The deeds for what is missing. -/
def posI (m : Int) : Int := if 0 < m then m else 0
def sumP : List Int → Int
  | [] => 0
  | m :: r => posI m + sumP r
/-- What deeds come to for a contract. -/
def owF (c : Int) : List GDeed → Int
  | [] => 0
  | x :: r => (if x.Contract = c then x.Count else 0) + owF c r
theorem owF_append {c : Int} : ∀ {a b : List GDeed}, owF c (a ++ b) = owF c a + owF c b
  | [], b => by simp [owF]
  | x :: a, b => by simp only [List.cons_append, owF, owF_append (a := a)]; omega
theorem sumP_append : ∀ {a b : List Int}, sumP (a ++ b) = sumP a + sumP b
  | [], b => by simp [sumP]
  | x :: a, b => by simp only [List.cons_append, sumP, sumP_append (a := a)]; omega
theorem owF_not {now due c : Int} : ∀ {z : List (GContract × Int)} {id : Int}, (∀ x ∈ z, x.1.ID ≠ c) → owF c (oweD now due id z) = 0
  | [], _, _ => rfl
  | a :: r, id, h => by
    have hr : ∀ x ∈ r, x.1.ID ≠ c := fun x hx => h x (List.mem_cons_of_mem _ hx)
    unfold oweD; split
    · simp only [owF]
      rw [if_neg (h a (List.mem_cons_self ..)), owF_not hr]; rfl
    · exact owF_not hr
theorem owF_at {now due : Int} : ∀ {z : List (GContract × Int)} {id : Int} {i : Nat} {x : GContract × Int}, z.Pairwise (fun a b => a.1.ID < b.1.ID) → z[i]? = some x → owF x.1.ID (oweD now due id z) = posI x.2
  | [], _, _, _, _, h => by simp at h
  | a :: r, id, 0, x, hp, h => by
    obtain ⟨h1, h2⟩ := List.pairwise_cons.1 hp
    simp at h; subst h
    have hn : ∀ y ∈ r, y.1.ID ≠ a.1.ID := fun y hy => by have := h1 y hy; omega
    unfold oweD posI; split
    · simp only [owF]; rw [if_pos trivial, owF_not hn]; omega
    · exact owF_not hn
  | a :: r, id, i + 1, x, hp, h => by
    obtain ⟨h1, h2⟩ := List.pairwise_cons.1 hp
    have hx : r[i]? = some x := by simpa using h
    have hlt := h1 x (List.mem_of_getElem? hx)
    unfold oweD; split
    · simp only [owF]; rw [if_neg (by omega), owF_at h2 hx]; omega
    · exact owF_at h2 hx
theorem kindS_owe {now due : Int} : ∀ {z : List (GContract × Int)} {id : Int}, kindS 1 (oweD now due id z) = sumP (z.map (·.2)) ∧ kindS 2 (oweD now due id z) = 0 ∧ kindS 4 (oweD now due id z) = 0
  | [], _ => ⟨rfl, rfl, rfl⟩
  | a :: r, id => by
    have ih1 := kindS_owe (now := now) (due := due) (z := r) (id := id + 1)
    have ih2 := kindS_owe (now := now) (due := due) (z := r) (id := id)
    simp only [List.map_cons, sumP, posI]
    unfold oweD; split
    · simp only [kindS]; simp [ih1]
    · rw [ih2.1, ih2.2.1, ih2.2.2]; simp
/-- They can all be done. -/
theorem oweD_right {now due : Int} (hn : 0 ≤ now ∧ now ≤ 9999999) (hd : now + 1 ≤ due ∧ due ≤ 10000000) : ∀ {z : List (GContract × Int)} {id : Int} {s : Bk × Int}, (∀ k, id ≤ k → s.1.used k = false) → s.2 ≤ now → (∀ x ∈ z, 0 ≤ x.1.ID ∧ x.1.ID ≤ 99 ∧ x.2 ≤ 50) → 0 ≤ id → id + z.length ≤ 200 →
    badAt s (oweD now due id z) = none ∧ (bookOf s (oweD now due id z)).1.op.length = s.1.op.length + (oweD now due id z).length
  | [], _, _, _, _, _, _, _ => ⟨rfl, rfl⟩
  | a :: r, id, s, hu, hs, hx, h0, hl => by
    have hr : ∀ x ∈ r, 0 ≤ x.1.ID ∧ x.1.ID ≤ 99 ∧ x.2 ≤ 50 := fun x h => hx x (List.mem_cons_of_mem _ h)
    have ha := hx a (List.mem_cons_self ..)
    rw [List.length_cons] at hl
    unfold oweD; split
    · rename_i hp
      have hin : inBO ⟨1, id, 0, a.1.ID, a.2, due, now⟩ = true := by
        simp only [inBO, Bool.and_eq_true, betw_iff]; exact ⟨⟨⟨by omega, by omega⟩, hn⟩, h0, by omega⟩
      have hcan : canOwe s.1 ⟨1, id, 0, a.1.ID, a.2, due, now⟩ = true := by
        have hf : freshB s.1 id = true := by
          unfold freshB
          rw [hu id (Int.le_refl _)]
          simp only [Bool.and_eq_true, betw_iff, Bool.not_false, and_true]; omega
        simp only [canOwe, Bool.and_eq_true, betw_iff, hf, decide_eq_true_eq]
        exact ⟨⟨⟨trivial, ha.1, ha.2.1⟩, trivial⟩, hd⟩
      have hstep : stepB s ⟨1, id, 0, a.1.ID, a.2, due, now⟩ = some (oweB s.1 ⟨1, id, 0, a.1.ID, a.2, due, now⟩, now) := by
        unfold stepB doB
        rw [if_pos hs, hin, hcan]; rfl
      have ih := oweD_right hn hd (z := r) (id := id + 1) (s := (oweB s.1 ⟨1, id, 0, a.1.ID, a.2, due, now⟩, now)) (fun k hk => by
        show setU s.1.used id k = false
        unfold setU; rw [if_neg (by omega)]; exact hu k (by omega)) (Int.le_refl _) hr (by omega) (by omega)
      simp only [badAt, bookOf, hstep, ih.1, ih.2]
      refine ⟨rfl, ?_⟩
      show (putD _ s.1.op).length + _ = _
      rw [putD_len, List.length_cons]; omega
    · exact oweD_right hn hd hu hs hr h0 (by omega)
/-- What Fold says of them. -/
theorem fold_owe {now due id : Int} {z : List (GContract × Int)} (hn : 0 ≤ now ∧ now ≤ 9999999) (hd : now + 1 ≤ due ∧ due ≤ 10000000) (hx : ∀ x ∈ z, 0 ≤ x.1.ID ∧ x.1.ID ≤ 99 ∧ x.2 ≤ 50) (h0 : 0 ≤ id) (hl : id + z.length ≤ 200) (hz : z.length ≤ 60) :
    ∃ (ds : List GDebt) (sm : GSums), foldI (oweD now due id z) = (ds, sm, ((oweD now due id z).length : Int), (0 : Int)) ∧ ds.length = (oweD now due id z).length ∧ sm.Owed = sumP (z.map (·.2)) ∧ sm.Open = sumP (z.map (·.2)) := by
  obtain ⟨h1, h2⟩ := oweD_right hn hd (z := z) (id := id) (s := s0B) (fun k _ => rfl) hn.1 hx h0 hl
  have hlen := @oweD_len now due z id
  refine ⟨_, _, foldI_ok h1 (by omega), by rw [h2]; exact Nat.zero_add _, ?_⟩
  obtain ⟨k1, k2, k4⟩ := @kindS_owe now due z id
  obtain ⟨s1, s2, s3, s4, s5⟩ := bookOf_sums _ _ h1
  have hok := bookOf_ok (oweD now due id z) s0B bk0_ok
  have h3 := hok.sum
  have h4 := hok.opn
  rw [s1, s2, s4, k1, k2, k4] at h3
  unfold openS
  refine ⟨by show (bookOf s0B (oweD now due id z)).1.sums.Owed = _; rw [s1, k1]; show 0 + _ = _; omega, ?_⟩
  show (bookOf s0B (oweD now due id z)).1.sums.Open + cntA _ = _
  have e0 : s0B.1.sums.Owed = 0 := rfl
  have e1 : s0B.1.sums.Served = 0 := rfl
  have e2 : s0B.1.sums.Paid = 0 := rfl
  omega
theorem oweD_mem {now due : Int} : ∀ {z : List (GContract × Int)} {id : Int} {x : GDeed}, x ∈ oweD now due id z → ∃ y ∈ z, x.Count = y.2 ∧ 0 < y.2
  | [], _, _, h => by cases h
  | a :: r, id, x, h => by
    unfold oweD at h; split at h
    · rcases List.mem_cons.1 h with rfl | h
      · exact ⟨a, List.mem_cons_self .., rfl, by assumption⟩
      · obtain ⟨y, hy, e⟩ := oweD_mem h
        exact ⟨y, List.mem_cons_of_mem _ hy, e⟩
    · obtain ⟨y, hy, e⟩ := oweD_mem h
      exact ⟨y, List.mem_cons_of_mem _ hy, e⟩
theorem owF_rng {c : Int} : ∀ {l : List GDeed}, (∀ x ∈ l, 1 ≤ x.Count ∧ x.Count ≤ 50) → 0 ≤ owF c l ∧ owF c l ≤ 50 * l.length
  | [], _ => by simp [owF]
  | a :: r, h => by
    have h1 := h a (List.mem_cons_self ..)
    have := owF_rng (c := c) (l := r) fun x hx => h x (List.mem_cons_of_mem _ hx)
    simp only [owF, List.length_cons]
    split <;> omega
theorem sumP_rng : ∀ {l : List Int}, (∀ x ∈ l, x ≤ 50) → 0 ≤ sumP l ∧ sumP l ≤ 50 * l.length
  | [], _ => by simp [sumP]
  | a :: r, h => by
    have h1 := h a (List.mem_cons_self ..)
    have := sumP_rng (l := r) fun x hx => h x (List.mem_cons_of_mem _ hx)
    simp only [sumP, posI, List.length_cons]
    split <;> omega
end Go.Proofs.YtgdmaadikcnagaaDoor
/- For each contract that is over, its count is what counts of the spots and what Owe says, together; Fold of these deeds has the sum as Owed and as Open. -/
namespace Go.Proofs.YtgdmaadikcnagaaDoor
open Go Go.Gx Go.RowKit
set_option linter.unusedVariables false
set_option linter.unusedSimpArgs false

theorem missing_t {l : List GContract} {sp : List GSpot} {t : Int} (h : okI l sp = true) (ht : 0 ≤ t ∧ t ≤ 10000000) : missingI l sp t = (l.map (missI (cntS l sp) t), 0) := by
  unfold missingI
  rw [h, show inR t 0 10000000 = true from decide_eq_true ht]; rfl
theorem nth_mapC {f : GContract → Int} {l : List GContract} {i : Int} (h0 : 0 ≤ i) (hi : i < l.length) : nth (l.map f) i = f (nth l i) := by
  have h := nth_get (l := l.map f) (i := i) h0 (by rw [List.length_map]; exact hi)
  rw [List.getElem?_map, nth_get h0 hi] at h
  exact (Option.some.inj h).symm
theorem countedE_run {l : List GContract} {sp : List GSpot} {v1 v2 : Value} {w0 : World} (h : okI l sp = true) (hr1 : Rd fGContract.ty w0 v1 l) (hr2 : Rd fGSpot.ty w0 v2 sp) (hl : l.length ≤ 1000000000) (hl2 : sp.length ≤ 1000000000) (hG : TblAt w0) : CallsR Tryd.prog 24 #[v1, v2] w0 (RowE w0 (cntI l sp, 0)) := by
  rw [← counted_t h]; exact counted_run hr1 hr2 hl hl2 hG
set_option maxHeartbeats 4000000 in
theorem lawPromised_spec {vx vy : Value} {xs : List GArr8Int} {ys : List GArr2Int} {now due : Int} {w0 : World} (hGK : TblAt w0 ∧ KindsAt w0) (hr1 : Rd fGArr8Int.ty w0 vx xs) (hx : ∀ x ∈ xs, okA8 x) (hxl : xs.length ≤ maxLen) (hr2 : Rd fGArr2Int.ty w0 vy ys) (hy : ∀ y ∈ ys, okA2 y) (hyl : ys.length ≤ maxLen) (hn : inI now) (hd : inI due) :
    CallsV Tryd.prog 9 #[vx, vy, .int .i64 now, .int .i64 due] w0 (.bool true) := by
  obtain ⟨hG, hK⟩ := hGK
  have S := St.start w0
  refine CallsV.mk ?_
  refine calls_enter Tryd.func9 rfl (by intro _ h; first | exact nomatch h.1 | (obtain ⟨_, h, _⟩ := h; exact nomatch h)) Tryd.ntmps9 rfl ?_
  repeat' (first | refine WP_seq ?_ | refine WP_region ?_ | refine wl_nil ?_ | refine then_normal ?_ | refine WP_skip ?_ | refine WP_condF rfl ?_ | (refine g_move ?_; refine st_move rfl ?_) | (refine g_assign ?_; refine st_assign rfl ?_) | (refine g_un ?_; refine st_val rfl (r_not rfl) ?_) | (refine g_callV ?_; (refine st_callV rfl (r_call0 rfl) (sane_spec (hG.mono S.below) (hK.mono S.below)) ?_; intro w hb; replace S := S.grow hb; clear hb)))
  refine st_callR rfl (r_call1 rfl rfl) (made_run (hr1.mono S.below) hx hxl) ?_; rintro vL w hb hrow; replace S := S.new hb hrow; clear hb hrow
  obtain ⟨l, hl⟩ : ∃ l, madeL xs = l := ⟨_, rfl⟩
  have hvl : validC l = true := by rw [← hl]; exact madeL_ok xs
  have hll : l.length ≤ 8 := by rw [← hl]; exact madeL_len xs
  rw [hl] at S
  obtain ⟨AL, cL, hz⟩ := (S.rdRow (D := fGContract) (i := 0) rfl).len; subst hz
  repeat' (first | refine WP_seq ?_ | refine WP_region ?_ | refine wl_nil ?_ | refine then_normal ?_ | (refine g_move ?_; refine st_move rfl ?_) | (refine g_assign ?_; refine st_assign rfl ?_))
  refine st_callR rfl (r_call2 rfl rfl rfl) (spots_run (S.rdRow (D := fGContract) (i := 0) rfl) (hr2.mono S.below) hy (by omega) hyl) ?_; rintro vP w hb hrow; replace S := S.new hb hrow; clear hb hrow
  obtain ⟨sp, hsp⟩ : ∃ sp, spotsL l ys = sp := ⟨_, rfl⟩
  have hvp : validP sp = true := by rw [← hsp]; exact spotsL_ok hvl ys
  have hpl : sp.length ≤ 24 := by rw [← hsp]; exact spotsL_len l ys
  rw [hsp] at S
  obtain ⟨AP, cP, hz⟩ := (S.rdRow (D := fGSpot) (i := 1) rfl).len; subst hz
  have hok : okI l sp = true := by unfold okI; rw [hvl, hvp]; rfl
  have rt := pickI_range (c := now) (n := 420000) (by omega)
  obtain ⟨t, ht⟩ : ∃ t, pickI now 420000 = t := ⟨_, rfl⟩
  have ru := pickI_range (c := due) (n := 1000) (by omega)
  obtain ⟨u, hu⟩ : ∃ u, pickI due 1000 = u := ⟨_, rfl⟩
  rw [ht] at rt
  rw [hu] at ru
  unfold inI at hn hd
  replace S : St w0 w [rowOb fGContract 76 (.slice AL l.length cL) l, rowOb fGSpot 78 (.slice AP sp.length cP) sp] := S
  have hmis := missing_t (t := t) hok (by omega)
  obtain ⟨M, hM⟩ : ∃ M, l.map (missI (cntS l sp) t) = M := ⟨_, rfl⟩
  rw [hM] at hmis
  have hMl : M.length = l.length := by rw [← hM, List.length_map]
  obtain ⟨D, hD⟩ : ∃ D, oweD t (t + 1 + u) 7 (l.zip M) = D := ⟨_, rfl⟩
  have hDl : D.length ≤ 8 := by
    have := @oweD_len t (t + 1 + u) (l.zip M) 7
    rw [hD, List.length_zip] at this; omega
  have howe : oweI l sp t (t + 1 + u) 7 = (D, 0) := by
    unfold oweI
    rw [if_neg, hmis, hD, if_neg (by omega)]
    unfold oweBad
    rw [hmis]
    simp only [betw]
    rw [decide_eq_true (by omega)]
    simp; omega
  have hinc := validC_inc hvl
  have hMi : ∀ i : Int, 0 ≤ i → i < l.length → nth M i = missI (cntS l sp) t (nth l i) := fun i a b => by rw [← hM, nth_mapC a b]
  have hM50 : ∀ i : Int, 0 ≤ i → i < l.length → 0 ≤ nth M i ∧ nth M i ≤ 50 ∧ 0 ≤ (nth l i).ID ∧ (nth l i).ID ≤ 99 ∧ (nth l i).Count ≤ 50 ∧ 1 ≤ (nth l i).Count := fun i a b => by
    have hokc := valid_ok hvl (nth_mem a b)
    have hid := okC_id hokc
    have hle := cntS_le (sp := sp) hvl (nth_mem a b)
    have hge := (@cntC_le (cntS l sp) (nth l i).ID).1
    have hcnt : 1 ≤ (nth l i).Count ∧ (nth l i).Count ≤ 50 := by
      unfold okC okN at hokc
      simp only [Bool.and_eq_true, decide_eq_true_eq] at hokc
      omega
    rw [hMi i a b]
    unfold missI
    split <;> omega
  have hzn : ∀ i : Int, 0 ≤ i → i < l.length → nth (l.zip M) i = (nth l i, nth M i) := fun i a b => nth_zip hMl a b
  have hzl : (l.zip M).length = l.length := by rw [List.length_zip]; omega
  have hzx : ∀ x ∈ l.zip M, 0 ≤ x.1.ID ∧ x.1.ID ≤ 99 ∧ x.2 ≤ 50 := fun x hx => by
    obtain ⟨j, hj⟩ := List.getElem?_of_mem hx
    have hjl : j < (l.zip M).length := (List.getElem?_eq_some_iff.1 hj).1
    have h1 := nth_get (l := l.zip M) (i := (j : Int)) (by omega) (by omega)
    rw [Int.toNat_natCast, hj, hzn j (by omega) (by omega)] at h1
    rw [Option.some.inj h1]
    have := hM50 j (by omega) (by omega)
    exact ⟨this.2.2.1, this.2.2.2.1, this.2.1⟩
  obtain ⟨dl, sm, hfold, hdl, hsO, hsP⟩ := fold_owe (now := t) (due := t + 1 + u) (id := 7) (z := l.zip M) (by omega) (by omega) hzx (by omega) (by omega) (by omega)
  rw [hD] at hfold hdl
  have hmap : (l.zip M).map (·.2) = M := by
    have := List.map_snd_zip (l₁ := l) (l₂ := M) (by omega)
    exact this
  rw [hmap] at hsO hsP
  have hDc : ∀ x ∈ D, 1 ≤ x.Count ∧ x.Count ≤ 50 := fun x hx => by
    rw [← hD] at hx
    obtain ⟨y, hy, e, hp⟩ := oweD_mem hx
    have := hzx y hy
    omega
  have hzp : (l.zip M).Pairwise fun a b => a.1.ID < b.1.ID := by
    have h1 : ((l.zip M).map (·.1)).Pairwise fun a b => a.ID < b.ID := by
      rw [List.map_fst_zip (by omega)]; exact hinc
    exact (List.pairwise_map (f := fun x : GContract × Int => x.1) (R := fun a b : GContract => a.ID < b.ID)).1 h1
  have how : ∀ i : Int, 0 ≤ i → i < l.length → owF (nth l i).ID D = nth M i := fun i a b => by
    have h1 := nth_get (l := l.zip M) (i := i) a (by omega)
    rw [hzn i a b] at h1
    have := owF_at (now := t) (due := t + 1 + u) (id := 7) hzp h1
    rw [hD] at this
    rw [this]
    have := hM50 i a b
    show posI (nth M i) = _
    unfold posI; split <;> omega
  repeat' (first | refine WP_seq ?_ | refine WP_region ?_ | refine wl_nil ?_ | refine then_normal ?_ | (refine g_move ?_; refine st_move rfl ?_) | (refine g_assign ?_; refine st_assign rfl ?_) | (refine g_callV ?_; (refine st_callV rfl (r_call2 rfl rfl rfl) (pickL_is ht (by omega) (by omega) (by omega)) ?_; intro w hb; replace S := S.grow hb; clear hb)))
  refine st_callR rfl (r_call2 rfl rfl rfl) (countedE_run hok (S.rdRow (D := fGContract) (i := 0) rfl) (S.rdRow (D := fGSpot) (i := 1) rfl) (by omega) (by omega) (hG.mono S.below)) ?_; rintro _ w hb ⟨vc, rfl, hrow⟩; replace S := S.new hb hrow; clear hb hrow
  repeat' (first | refine WP_seq ?_ | refine WP_region ?_ | refine wl_nil ?_ | refine then_normal ?_ | (refine g_move ?_; refine st_move rfl ?_) | (refine g_assign ?_; refine st_assign rfl ?_) | (refine g_b_add ?_; (refine st_val rfl (r_addN rfl rfl ?_ ?_) ?_; (first | omega | (simp <;> omega)); (first | omega | (simp <;> omega)))) | (refine g_extract ?_; refine st_val rfl (r_extract rfl rfl) ?_) | (refine g_callV ?_; (refine st_callV rfl (r_call2 rfl rfl rfl) (pickL_is hu (by omega) (by omega) (by omega)) ?_; intro w hb; replace S := S.grow hb; clear hb)))
  refine st_callR rfl (r_call5 rfl rfl rfl rfl rfl rfl) (owe_is howe (S.rdRow (D := fGContract) (i := 0) rfl) (S.rdRow (D := fGSpot) (i := 1) rfl) (by omega) (by omega) (hG.mono S.below)) ?_; rintro _ w hb ⟨vd, rfl, hrow⟩; replace S := S.new hb hrow; clear hb hrow
  obtain ⟨AD, cD, hz⟩ := (S.rdRow (D := fGDeed) (i := 3) rfl).len; subst hz
  repeat' (first | refine WP_seq ?_ | refine WP_region ?_ | refine wl_nil ?_ | refine then_normal ?_ | (refine g_move ?_; refine st_move rfl ?_) | (refine g_assign ?_; refine st_assign rfl ?_) | (refine g_extract ?_; refine st_val rfl (r_extract rfl rfl) ?_))
  refine st_callR rfl (r_call1 rfl rfl) (fold_is hfold (hK.mono S.below) (S.rdRow (D := fGDeed) (i := 3) rfl) (by omega)) ?_; rintro _ w hb ⟨ve, rfl, hrow⟩; replace S := S.new hb hrow; clear hb hrow
  obtain ⟨out, hout⟩ : ∃ out, cntI l sp = out := ⟨_, rfl⟩
  have hom : ∀ x ∈ out, 0 ≤ x ∧ x < sp.length := by rw [← hout]; exact fun y hy => cntI_mem hy
  have hcl := cntI_len l sp
  rw [hout] at hcl
  have hcs : cntS l sp = spAt sp out := by rw [← hout]
  replace S : St w0 w [rowOb fGContract 76 (.slice AL l.length cL) l, rowOb fGSpot 78 (.slice AP sp.length cP) sp, rowOb (fInt .i64) 3 vc out, rowOb fGDeed 36 (.slice AD D.length cD) D, rowOb fGDebt 33 ve dl] := by rw [← hout]; exact S
  obtain ⟨AC, cC, hz⟩ := (S.rdRow (D := fInt .i64) (i := 2) rfl).len; subst hz
  obtain ⟨AE, cE, hz⟩ := (S.rdRow (D := fGDebt) (i := 4) rfl).len; subst hz
  repeat' (first | refine WP_seq ?_ | refine WP_region ?_ | refine wl_nil ?_ | refine then_normal ?_ | refine WP_skip ?_ | refine WP_block ?_ | (refine g_move ?_; refine st_move rfl ?_) | (refine g_assign ?_; refine st_assign rfl ?_) | (refine g_pick ?_; refine st_pickF rfl rfl ?_) | (refine g_b_neq ?_; refine st_val rfl (r_neq rfl rfl) ?_) | (refine g_extract ?_; refine st_val rfl (r_extract rfl rfl) ?_) | (refine g_c_len ?_; refine st_val rfl (r_lenSlice rfl) ?_) | (refine g_alloc ?_; refine st_valE rfl (r_alloc S) ?_; rintro _ w ⟨b, rfl, -, S'⟩; replace S := S'; clear S') | (refine g_store ?_; first | (refine st_skipE rfl (r_storeVar (i := 0) S rfl rfl rfl rfl (of_decide_eq_true rfl) (of_decide_eq_true rfl)) ?_; intro w S'; replace S := S'; clear S') | (refine st_skipE rfl (r_storeVar (i := 1) S rfl rfl rfl rfl (of_decide_eq_true rfl) (of_decide_eq_true rfl)) ?_; intro w S'; replace S := S'; clear S') | (refine st_skipE rfl (r_storeVar (i := 2) S rfl rfl rfl rfl (of_decide_eq_true rfl) (of_decide_eq_true rfl)) ?_; intro w S'; replace S := S'; clear S') | (refine st_skipE rfl (r_storeVar (i := 3) S rfl rfl rfl rfl (of_decide_eq_true rfl) (of_decide_eq_true rfl)) ?_; intro w S'; replace S := S'; clear S') | (refine st_skipE rfl (r_storeVar (i := 4) S rfl rfl rfl rfl (of_decide_eq_true rfl) (of_decide_eq_true rfl)) ?_; intro w S'; replace S := S'; clear S') | (refine st_skipE rfl (r_storeVar (i := 5) S rfl rfl rfl rfl (of_decide_eq_true rfl) (of_decide_eq_true rfl)) ?_; intro w S'; replace S := S'; clear S')) | (refine wl_split rfl rfl (fun h => ?_) (fun h => ?_) <;> (fail_if_success (have hh : true = true := h)) <;> (fail_if_success (have hh : false = false := h)) <;> (try simp only [decide_eq_true_eq, decide_eq_false_iff_not, Bool.not_eq_true', Bool.not_eq_false', Int.not_lt, Int.not_le] at h) <;> (try (exfalso; omega)) <;> (try (exfalso; (first | omega | exact absurd trivial h); done))) | (refine WP_cond rfl (fun h => ?_) (fun h => ?_) <;> (fail_if_success (have hh : true = true := h)) <;> (fail_if_success (have hh : false = false := h)) <;> (try simp only [decide_eq_true_eq, decide_eq_false_iff_not, Bool.not_eq_true', Bool.not_eq_false', Int.not_lt, Int.not_le] at h) <;> (try (exfalso; omega)) <;> (try (exfalso; (first | omega | exact absurd trivial h); done))))
  replace S : St w0 w [rowOb fGContract 76 (.slice AL l.length cL) l, rowOb fGSpot 78 (.slice AP sp.length cP) sp, rowOb (fInt .i64) 3 (.slice AC out.length cC) out, rowOb fGDeed 36 (.slice AD D.length cD) D, .var b 28 sm.enc] := by first | exact S.keep [true, true, true, true, false, true] | exact S
  have hsumM : ∀ i : Int, 0 ≤ i → i ≤ l.length → 0 ≤ sumP (M.take i.toNat) ∧ sumP (M.take i.toNat) ≤ 400 := fun i a b => by
    have := @sumP_rng (M.take i.toNat) fun x hx => by
      obtain ⟨j, hj⟩ := List.getElem?_of_mem (List.mem_of_mem_take hx)
      have hjl : j < M.length := (List.getElem?_eq_some_iff.1 hj).1
      have h1 := nth_get (l := M) (i := (j : Int)) (by omega) (by omega)
      rw [Int.toNat_natCast, hj] at h1
      rw [Option.some.inj h1]
      exact (hM50 j (by omega) (by omega)).2.1
    rw [List.length_take] at this; omega
  have hDrng : ∀ (c k : Int), 0 ≤ owF c (D.take k.toNat) ∧ owF c (D.take k.toNat) ≤ 400 := fun c k => by
    have := @owF_rng c (D.take k.toNat) fun x hx => hDc x (List.mem_of_mem_take hx)
    rw [List.length_take] at this; omega
  refine WP_loop (fun m σ w1 => ∃ (i : Int), Has σ [(9, .bool true), (10, .slice AL l.length cL), (11, .slice AP sp.length cP), (12, .int .i64 t), (13, .slice AC out.length cC), (15, .slice AD D.length cD), (18, .pointer (some ⟨b, 0, none⟩)), (21, .int .i64 (sumP (M.take i.toNat))), (22, .int .i64 i)] ∧ St w0 w1 [rowOb fGContract 76 (.slice AL l.length cL) l, rowOb fGSpot 78 (.slice AP sp.length cP) sp, rowOb (fInt .i64) 3 (.slice AC out.length cC) out, rowOb fGDeed 36 (.slice AD D.length cD) D, .var b 28 sm.enc] ∧ 0 ≤ i ∧ i ≤ l.length ∧ m = l.length - i.toNat) l.length ⟨0, ⟨rfl, rfl, rfl, rfl, rfl, rfl, rfl, rfl, rfl, trivial⟩, S, by omega, by omega, by omega⟩ ?_
  clear S
  rintro m σ w1 ⟨i, hs, S, hi0, hi1, rfl⟩
  by_cases hi : i < l.length
  · have hmi := hM50 i hi0 hi
    have hsn : sumP (M.take (i + 1).toNat) = sumP (M.take i.toNat) + nth M i := by
      rw [take_snoc hi0 (by omega), sumP_append]
      show _ + (posI (nth M i) + 0) = _
      unfold posI; split <;> omega
    have hso := hsumM i hi0 (by omega)
    have hsq := hsumM (i + 1) (by omega) (by omega)
    have howi := how i hi0 hi
    generalize sumP (M.take i.toNat) = al at hs hsn hso ⊢
    refine WP_has hs ?_
    repeat' (first | refine WP_seq ?_ | refine WP_region ?_ | refine wl_nil ?_ | refine then_normal ?_ | refine WP_skip ?_ | refine WP_block ?_ | (refine g_move ?_; refine st_move rfl ?_) | (refine g_assign ?_; refine st_assign rfl ?_) | (refine g_b_lss ?_; refine st_val rfl (r_lss rfl rfl) ?_) | (refine g_c_len ?_; refine st_val rfl (r_lenSlice rfl) ?_) | (refine WP_cond rfl (fun h => ?_) (fun h => ?_) <;> (fail_if_success (have hh : true = true := h)) <;> (fail_if_success (have hh : false = false := h)) <;> (try simp only [decide_eq_true_eq, decide_eq_false_iff_not, Bool.not_eq_true', Bool.not_eq_false', Int.not_lt, Int.not_le] at h) <;> (try (exfalso; omega)) <;> (try (exfalso; omega; done))))
    clear hs
    refine WP_loop (fun m σ w1 => ∃ (k : Int), Has σ [(9, .bool true), (10, .slice AL l.length cL), (11, .slice AP sp.length cP), (12, .int .i64 t), (13, .slice AC out.length cC), (15, .slice AD D.length cD), (18, .pointer (some ⟨b, 0, none⟩)), (21, .int .i64 al), (22, .int .i64 i), (23, .int .i64 (owF (nth l i).ID (D.take k.toNat))), (24, .int .i64 k)] ∧ St w0 w1 [rowOb fGContract 76 (.slice AL l.length cL) l, rowOb fGSpot 78 (.slice AP sp.length cP) sp, rowOb (fInt .i64) 3 (.slice AC out.length cC) out, rowOb fGDeed 36 (.slice AD D.length cD) D, .var b 28 sm.enc] ∧ 0 ≤ k ∧ k ≤ D.length ∧ m = D.length - k.toNat) D.length ⟨0, ⟨rfl, rfl, rfl, rfl, rfl, rfl, rfl, rfl, rfl, rfl, rfl, trivial⟩, S, by omega, by omega, by omega⟩ ?_
    clear S
    rintro m σ w1 ⟨k, hs, S, hk0, hk1, rfl⟩
    have hok := hDrng (nth l i).ID k
    by_cases hk : k < D.length
    · have hcd := hDc _ (nth_mem (l := D) hk0 hk)
      have eO : owF (nth l i).ID (D.take (k + 1).toNat) = owF (nth l i).ID (D.take k.toNat) + (if (nth D k).Contract = (nth l i).ID then (nth D k).Count else 0) := by
        rw [take_snoc hk0 hk, owF_append]; simp only [owF]; omega
      generalize owF (nth l i).ID (D.take k.toNat) = ow at hs eO hok ⊢
      refine WP_has hs ?_
      by_cases he : (nth D k).Contract = (nth l i).ID
      · rw [if_pos he] at eO
        repeat' (first | refine WP_seq ?_ | refine WP_region ?_ | refine wl_nil ?_ | refine then_normal ?_ | refine inB_normal ?_ | refine WP_skip ?_ | refine WP_block ?_ | refine WP_draw (by kernel_rfl) (by kernel_rfl) ?_ | (refine ql_nil ?_; intro w hb; replace S := S.grow hb; clear hb) | (refine g_move ?_; refine st_move rfl ?_) | (refine g_assign ?_; refine st_assign rfl ?_) | (refine g_b_add ?_; (refine st_val rfl (r_addN rfl rfl ?_ ?_) ?_; (first | omega | (simp <;> omega)); (first | omega | (simp <;> omega)))) | (refine g_b_lss ?_; refine st_val rfl (r_lss rfl rfl) ?_) | (refine g_c_len ?_; refine st_val rfl (r_lenSlice rfl) ?_) | (refine g_fieldAddr ?_; refine st_val rfl (r_fieldAddr rfl) ?_) | (refine g_indexAddr ?_; (refine st_val rfl (r_indexAddr (S.rdRow (D := fGDeed) (i := 3) rfl) rfl rfl ?_ ?_) ?_; (first | omega | (simp <;> omega)); (first | omega | (simp <;> omega)))) | (refine g_load ?_; (refine st_val rfl (r_loadElemF (S.rdRow (D := fGDeed) (i := 3) rfl) rfl ?_ ?_ rfl) ?_; (first | omega | (simp <;> omega)); (first | omega | (simp <;> omega)))) | (refine gq_move ?_; refine q_move rfl ?_) | (refine gq_b_eql ?_; refine q_val rfl (fun w' hb => r_eql rfl rfl) ?_) | (refine gq_fieldAddr ?_; refine q_val rfl (fun w' hb => r_fieldAddr rfl) ?_) | (refine gq_indexAddr ?_; first | (refine q_val rfl (fun w' hb => r_indexAddr ((S.grow hb).rdRow (D := fGContract) (i := 0) rfl) rfl rfl ?_ ?_) ?_; (first | omega | (simp <;> omega)); (first | omega | (simp <;> omega))) | (refine q_val rfl (fun w' hb => r_indexAddr ((S.grow hb).rdRow (D := fGDeed) (i := 3) rfl) rfl rfl ?_ ?_) ?_; (first | omega | (simp <;> omega)); (first | omega | (simp <;> omega)))) | (refine gq_load ?_; first | (refine q_val rfl (fun w' hb => r_loadElem1 ((S.grow hb).rdRow (D := fGContract) (i := 0) rfl) rfl ?_ ?_ rfl) ?_; (first | omega | (simp <;> omega)); (first | omega | (simp <;> omega))) | (refine q_val rfl (fun w' hb => r_loadElemF ((S.grow hb).rdRow (D := fGDeed) (i := 3) rfl) rfl ?_ ?_ rfl) ?_; (first | omega | (simp <;> omega)); (first | omega | (simp <;> omega)))) | (refine WP_cond rfl (fun h => ?_) (fun h => ?_) <;> (fail_if_success (have hh : true = true := h)) <;> (fail_if_success (have hh : false = false := h)) <;> (try simp only [decide_eq_true_eq, decide_eq_false_iff_not, Bool.not_eq_true', Bool.not_eq_false', Int.not_lt, Int.not_le] at h) <;> (try (exfalso; omega)) <;> (try (exfalso; omega; done))))
        refine ⟨⟨_, ?_, k + 1, ⟨rfl, rfl, rfl, rfl, rfl, rfl, rfl, rfl, rfl, by rw [eO]; rfl, rfl, trivial⟩, S, by omega, by omega, rfl⟩⟩
        omega
      · rw [if_neg he, Int.add_zero] at eO
        repeat' (first | refine WP_seq ?_ | refine WP_region ?_ | refine wl_nil ?_ | refine then_normal ?_ | refine inB_normal ?_ | refine WP_skip ?_ | refine WP_block ?_ | refine WP_draw (by kernel_rfl) (by kernel_rfl) ?_ | (refine ql_nil ?_; intro w hb; replace S := S.grow hb; clear hb) | (refine g_move ?_; refine st_move rfl ?_) | (refine g_assign ?_; refine st_assign rfl ?_) | (refine g_b_add ?_; (refine st_val rfl (r_addN rfl rfl ?_ ?_) ?_; (first | omega | (simp <;> omega)); (first | omega | (simp <;> omega)))) | (refine g_b_lss ?_; refine st_val rfl (r_lss rfl rfl) ?_) | (refine g_c_len ?_; refine st_val rfl (r_lenSlice rfl) ?_) | (refine gq_move ?_; refine q_move rfl ?_) | (refine gq_b_eql ?_; refine q_val rfl (fun w' hb => r_eql rfl rfl) ?_) | (refine gq_fieldAddr ?_; refine q_val rfl (fun w' hb => r_fieldAddr rfl) ?_) | (refine gq_indexAddr ?_; first | (refine q_val rfl (fun w' hb => r_indexAddr ((S.grow hb).rdRow (D := fGContract) (i := 0) rfl) rfl rfl ?_ ?_) ?_; (first | omega | (simp <;> omega)); (first | omega | (simp <;> omega))) | (refine q_val rfl (fun w' hb => r_indexAddr ((S.grow hb).rdRow (D := fGDeed) (i := 3) rfl) rfl rfl ?_ ?_) ?_; (first | omega | (simp <;> omega)); (first | omega | (simp <;> omega)))) | (refine gq_load ?_; first | (refine q_val rfl (fun w' hb => r_loadElem1 ((S.grow hb).rdRow (D := fGContract) (i := 0) rfl) rfl ?_ ?_ rfl) ?_; (first | omega | (simp <;> omega)); (first | omega | (simp <;> omega))) | (refine q_val rfl (fun w' hb => r_loadElemF ((S.grow hb).rdRow (D := fGDeed) (i := 3) rfl) rfl ?_ ?_ rfl) ?_; (first | omega | (simp <;> omega)); (first | omega | (simp <;> omega)))) | (refine WP_cond rfl (fun h => ?_) (fun h => ?_) <;> (fail_if_success (have hh : true = true := h)) <;> (fail_if_success (have hh : false = false := h)) <;> (try simp only [decide_eq_true_eq, decide_eq_false_iff_not, Bool.not_eq_true', Bool.not_eq_false', Int.not_lt, Int.not_le] at h) <;> (try (exfalso; omega)) <;> (try (exfalso; omega; done))))
        refine ⟨⟨_, ?_, k + 1, ⟨rfl, rfl, rfl, rfl, rfl, rfl, rfl, rfl, rfl, by rw [eO]; rfl, rfl, trivial⟩, S, by omega, by omega, rfl⟩⟩
        omega
    rw [show k.toNat = D.length by omega, List.take_length, howi] at hs
    refine WP_has hs ?_
    clear hs
    repeat' (first | refine WP_seq ?_ | refine WP_region ?_ | refine wl_nil ?_ | refine then_normal ?_ | refine then_exit ?_ | refine inB_here ?_ | refine WP_exit ?_ | refine WP_block ?_ | (refine g_move ?_; refine st_move rfl ?_) | (refine g_assign ?_; refine st_assign rfl ?_) | (refine g_b_add ?_; (refine st_val rfl (r_addN rfl rfl ?_ ?_) ?_; (first | omega | (simp <;> omega)); (first | omega | (simp <;> omega)))) | (refine g_b_lss ?_; refine st_val rfl (r_lss rfl rfl) ?_) | (refine g_c_len ?_; refine st_val rfl (r_lenSlice rfl) ?_) | (refine WP_cond rfl (fun h => ?_) (fun h => ?_) <;> (fail_if_success (have hh : true = true := h)) <;> (fail_if_success (have hh : false = false := h)) <;> (try simp only [decide_eq_true_eq, decide_eq_false_iff_not, Bool.not_eq_true', Bool.not_eq_false', Int.not_lt, Int.not_le] at h) <;> (try (exfalso; omega)) <;> (try (exfalso; omega; done))))
    refine WP_loop (fun m σ w1 => ∃ (k : Int), Has σ [(9, .bool true), (10, .slice AL l.length cL), (11, .slice AP sp.length cP), (12, .int .i64 t), (13, .slice AC out.length cC), (15, .slice AD D.length cD), (18, .pointer (some ⟨b, 0, none⟩)), (21, .int .i64 (al + nth M i)), (22, .int .i64 i), (23, .int .i64 (nth M i)), (25, .int .i64 (cntC (spAt sp (out.take k.toNat)) (nth l i).ID)), (26, .int .i64 k)] ∧ St w0 w1 [rowOb fGContract 76 (.slice AL l.length cL) l, rowOb fGSpot 78 (.slice AP sp.length cP) sp, rowOb (fInt .i64) 3 (.slice AC out.length cC) out, rowOb fGDeed 36 (.slice AD D.length cD) D, .var b 28 sm.enc] ∧ 0 ≤ k ∧ k ≤ out.length ∧ m = out.length - k.toNat) out.length ⟨0, ⟨rfl, rfl, rfl, rfl, rfl, rfl, rfl, rfl, rfl, rfl, rfl, rfl, trivial⟩, S, by omega, by omega, by omega⟩ ?_
    clear S hk hk0 hk1 hok
    rintro m σ w1 ⟨k, hs, S, hk0, hk1, rfl⟩
    have hple := @cntC_le (spAt sp (out.take k.toNat)) (nth l i).ID
    rw [spAt_len, List.length_take] at hple
    by_cases hk : k < out.length
    · have hor := hom _ (nth_mem hk0 hk)
      have e := spAt_take (sp := sp) hk0 hk
      have eC := @cntC_snoc (spAt sp (out.take k.toNat)) (nth sp (nth out k)) (nth l i).ID
      rw [← e] at eC
      generalize cntC (spAt sp (out.take k.toNat)) (nth l i).ID = cc at hs eC hple ⊢
      refine WP_has hs ?_
      by_cases he : (nth sp (nth out k)).Contract = (nth l i).ID
      · rw [if_pos he] at eC
        repeat' (first | refine WP_seq ?_ | refine WP_region ?_ | refine wl_nil ?_ | refine then_normal ?_ | refine inB_normal ?_ | refine WP_skip ?_ | refine WP_block ?_ | refine WP_draw (by kernel_rfl) (by kernel_rfl) ?_ | (refine ql_nil ?_; intro w hb; replace S := S.grow hb; clear hb) | (refine g_move ?_; refine st_move rfl ?_) | (refine g_assign ?_; refine st_assign rfl ?_) | (refine g_b_add ?_; (refine st_val rfl (r_addN rfl rfl ?_ ?_) ?_; (first | omega | (simp <;> omega)); (first | omega | (simp <;> omega)))) | (refine g_b_lss ?_; refine st_val rfl (r_lss rfl rfl) ?_) | (refine g_c_len ?_; refine st_val rfl (r_lenSlice rfl) ?_) | (refine gq_move ?_; refine q_move rfl ?_) | (refine gq_pick ?_; refine q_pickT rfl rfl ?_) | (refine gq_b_eql ?_; refine q_val rfl (fun w' hb => r_eql rfl rfl) ?_) | (refine gq_b_lss ?_; refine q_val rfl (fun w' hb => r_lss rfl rfl) ?_) | (refine gq_b_geq ?_; refine q_val rfl (fun w' hb => r_geq rfl rfl) ?_) | (refine gq_c_len ?_; refine q_val rfl (fun w' hb => r_lenSlice rfl) ?_) | (refine gq_fieldAddr ?_; refine q_val rfl (fun w' hb => r_fieldAddr rfl) ?_) | (refine gq_indexAddr ?_; first | (refine q_val rfl (fun w' hb => r_indexAddr ((S.grow hb).rdRow (D := fGContract) (i := 0) rfl) rfl rfl ?_ ?_) ?_; (first | omega | (simp <;> omega)); (first | omega | (simp <;> omega))) | (refine q_val rfl (fun w' hb => r_indexAddr ((S.grow hb).rdRow (D := fGSpot) (i := 1) rfl) rfl rfl ?_ ?_) ?_; (first | omega | (simp <;> omega)); (first | omega | (simp <;> omega))) | (refine q_val rfl (fun w' hb => r_indexAddr ((S.grow hb).rdRow (D := (fInt .i64)) (i := 2) rfl) rfl rfl ?_ ?_) ?_; (first | omega | (simp <;> omega)); (first | omega | (simp <;> omega)))) | (refine gq_load ?_; first | (refine q_val rfl (fun w' hb => r_loadElem1 ((S.grow hb).rdRow (D := fGContract) (i := 0) rfl) rfl ?_ ?_ rfl) ?_; (first | omega | (simp <;> omega)); (first | omega | (simp <;> omega))) | (refine q_val rfl (fun w' hb => r_loadElem1 ((S.grow hb).rdRow (D := fGSpot) (i := 1) rfl) rfl ?_ ?_ rfl) ?_; (first | omega | (simp <;> omega)); (first | omega | (simp <;> omega))) | (refine q_val rfl (fun w' hb => r_loadElem1 ((S.grow hb).rdRow (D := (fInt .i64)) (i := 2) rfl) rfl ?_ ?_ rfl) ?_; (first | omega | (simp <;> omega)); (first | omega | (simp <;> omega)))) | (refine ql_split rfl rfl (fun h => ?_) (fun h => ?_) <;> (fail_if_success (have hh : true = true := h)) <;> (fail_if_success (have hh : false = false := h)) <;> (try simp only [decide_eq_true_eq, decide_eq_false_iff_not, Bool.not_eq_true', Bool.not_eq_false', Int.not_lt, Int.not_le] at h) <;> (try (exfalso; omega)) <;> (try (exfalso; omega; done))) | (refine WP_cond rfl (fun h => ?_) (fun h => ?_) <;> (fail_if_success (have hh : true = true := h)) <;> (fail_if_success (have hh : false = false := h)) <;> (try simp only [decide_eq_true_eq, decide_eq_false_iff_not, Bool.not_eq_true', Bool.not_eq_false', Int.not_lt, Int.not_le] at h) <;> (try (exfalso; omega)) <;> (try (exfalso; omega; done))))
        refine ⟨⟨_, ?_, k + 1, ⟨rfl, rfl, rfl, rfl, rfl, rfl, rfl, rfl, rfl, rfl, by rw [eC]; rfl, rfl, trivial⟩, S, by omega, by omega, rfl⟩⟩
        omega
      · rw [if_neg he, Int.add_zero] at eC
        repeat' (first | refine WP_seq ?_ | refine WP_region ?_ | refine wl_nil ?_ | refine then_normal ?_ | refine inB_normal ?_ | refine WP_skip ?_ | refine WP_block ?_ | refine WP_draw (by kernel_rfl) (by kernel_rfl) ?_ | (refine ql_nil ?_; intro w hb; replace S := S.grow hb; clear hb) | (refine g_move ?_; refine st_move rfl ?_) | (refine g_assign ?_; refine st_assign rfl ?_) | (refine g_b_add ?_; (refine st_val rfl (r_addN rfl rfl ?_ ?_) ?_; (first | omega | (simp <;> omega)); (first | omega | (simp <;> omega)))) | (refine g_b_lss ?_; refine st_val rfl (r_lss rfl rfl) ?_) | (refine g_c_len ?_; refine st_val rfl (r_lenSlice rfl) ?_) | (refine gq_move ?_; refine q_move rfl ?_) | (refine gq_pick ?_; refine q_pickT rfl rfl ?_) | (refine gq_b_eql ?_; refine q_val rfl (fun w' hb => r_eql rfl rfl) ?_) | (refine gq_b_lss ?_; refine q_val rfl (fun w' hb => r_lss rfl rfl) ?_) | (refine gq_b_geq ?_; refine q_val rfl (fun w' hb => r_geq rfl rfl) ?_) | (refine gq_c_len ?_; refine q_val rfl (fun w' hb => r_lenSlice rfl) ?_) | (refine gq_fieldAddr ?_; refine q_val rfl (fun w' hb => r_fieldAddr rfl) ?_) | (refine gq_indexAddr ?_; first | (refine q_val rfl (fun w' hb => r_indexAddr ((S.grow hb).rdRow (D := fGContract) (i := 0) rfl) rfl rfl ?_ ?_) ?_; (first | omega | (simp <;> omega)); (first | omega | (simp <;> omega))) | (refine q_val rfl (fun w' hb => r_indexAddr ((S.grow hb).rdRow (D := fGSpot) (i := 1) rfl) rfl rfl ?_ ?_) ?_; (first | omega | (simp <;> omega)); (first | omega | (simp <;> omega))) | (refine q_val rfl (fun w' hb => r_indexAddr ((S.grow hb).rdRow (D := (fInt .i64)) (i := 2) rfl) rfl rfl ?_ ?_) ?_; (first | omega | (simp <;> omega)); (first | omega | (simp <;> omega)))) | (refine gq_load ?_; first | (refine q_val rfl (fun w' hb => r_loadElem1 ((S.grow hb).rdRow (D := fGContract) (i := 0) rfl) rfl ?_ ?_ rfl) ?_; (first | omega | (simp <;> omega)); (first | omega | (simp <;> omega))) | (refine q_val rfl (fun w' hb => r_loadElem1 ((S.grow hb).rdRow (D := fGSpot) (i := 1) rfl) rfl ?_ ?_ rfl) ?_; (first | omega | (simp <;> omega)); (first | omega | (simp <;> omega))) | (refine q_val rfl (fun w' hb => r_loadElem1 ((S.grow hb).rdRow (D := (fInt .i64)) (i := 2) rfl) rfl ?_ ?_ rfl) ?_; (first | omega | (simp <;> omega)); (first | omega | (simp <;> omega)))) | (refine ql_split rfl rfl (fun h => ?_) (fun h => ?_) <;> (fail_if_success (have hh : true = true := h)) <;> (fail_if_success (have hh : false = false := h)) <;> (try simp only [decide_eq_true_eq, decide_eq_false_iff_not, Bool.not_eq_true', Bool.not_eq_false', Int.not_lt, Int.not_le] at h) <;> (try (exfalso; omega)) <;> (try (exfalso; omega; done))) | (refine WP_cond rfl (fun h => ?_) (fun h => ?_) <;> (fail_if_success (have hh : true = true := h)) <;> (fail_if_success (have hh : false = false := h)) <;> (try simp only [decide_eq_true_eq, decide_eq_false_iff_not, Bool.not_eq_true', Bool.not_eq_false', Int.not_lt, Int.not_le] at h) <;> (try (exfalso; omega)) <;> (try (exfalso; omega; done))))
        refine ⟨⟨_, ?_, k + 1, ⟨rfl, rfl, rfl, rfl, rfl, rfl, rfl, rfl, rfl, rfl, by rw [eC]; rfl, rfl, trivial⟩, S, by omega, by omega, rfl⟩⟩
        omega
    rw [show k.toNat = out.length by omega, List.take_length, ← hcs] at hs
    rw [show k.toNat = out.length by omega, List.take_length, ← hcs] at hple
    have hmm := hMi i hi0 hi
    by_cases h0 : t < (nth l i).Window.To
    · have hm0 : nth M i = 0 := by rw [hmm]; unfold missI; rw [if_neg (by omega)]
      rw [hm0, Int.add_zero] at hs
      generalize cntC (cntS l sp) (nth l i).ID = cc at hs hple
      refine WP_has hs ?_
      repeat' (first | refine WP_seq ?_ | refine WP_region ?_ | refine wl_nil ?_ | refine then_normal ?_ | refine inB_normal ?_ | refine then_exit ?_ | refine inB_here ?_ | refine WP_skip ?_ | refine WP_exit ?_ | refine WP_condF rfl ?_ | (refine g_guard ?_; refine st_off rfl ?_) | (refine g_move ?_; refine st_move rfl ?_) | (refine g_assign ?_; refine st_assign rfl ?_) | (refine g_pick ?_; first | refine st_pickT rfl rfl ?_ | refine st_pickF rfl rfl ?_) | (refine g_b_add ?_; (refine st_val rfl (r_addN rfl rfl ?_ ?_) ?_; (first | omega | (simp <;> omega)); (first | omega | (simp <;> omega)))) | (refine g_b_neq ?_; refine st_val rfl (r_neq rfl rfl) ?_) | (refine g_b_lss ?_; refine st_val rfl (r_lss rfl rfl) ?_) | (refine g_b_leq ?_; refine st_val rfl (r_leq rfl rfl) ?_) | (refine g_b_gtr ?_; refine st_val rfl (r_gtr rfl rfl) ?_) | (refine g_c_len ?_; refine st_val rfl (r_lenSlice rfl) ?_) | (refine g_fieldAddr ?_; first | refine st_val rfl (r_fieldAddrA rfl) ?_ | refine st_val rfl (r_fieldAddr rfl) ?_) | (refine g_indexAddr ?_; (refine st_val rfl (r_indexAddr (S.rdRow (D := fGContract) (i := 0) rfl) rfl rfl ?_ ?_) ?_; (first | omega | (simp <;> omega)); (first | omega | (simp <;> omega)))) | (refine g_load ?_; (refine st_val rfl (r_loadElemF (S.rdRow (D := fGContract) (i := 0) rfl) rfl ?_ ?_ rfl) ?_; (first | omega | (simp <;> omega)); (first | omega | (simp <;> omega)))) | (refine wl_split rfl rfl (fun h => ?_) (fun h => ?_) <;> (fail_if_success (have hh : true = true := h)) <;> (fail_if_success (have hh : false = false := h)) <;> (try simp only [decide_eq_true_eq, decide_eq_false_iff_not, Bool.not_eq_true', Bool.not_eq_false', Int.not_lt, Int.not_le] at h) <;> (try (exfalso; omega)) <;> (try (exfalso; omega; done))) | (refine WP_cond rfl (fun h => ?_) (fun h => ?_) <;> (fail_if_success (have hh : true = true := h)) <;> (fail_if_success (have hh : false = false := h)) <;> (try simp only [decide_eq_true_eq, decide_eq_false_iff_not, Bool.not_eq_true', Bool.not_eq_false', Int.not_lt, Int.not_le] at h) <;> (try (exfalso; omega)) <;> (try (exfalso; omega; done))))
      refine ⟨⟨_, ?_, i + 1, ⟨rfl, rfl, rfl, rfl, rfl, rfl, rfl, by rw [hsn, hm0, Int.add_zero]; rfl, rfl, trivial⟩, S, by omega, by omega, rfl⟩⟩
      omega
    · rw [missI, if_pos (by omega)] at hmm
      generalize cntC (cntS l sp) (nth l i).ID = cc at hs hple hmm
      refine WP_has hs ?_
      repeat' (first | refine WP_seq ?_ | refine WP_region ?_ | refine wl_nil ?_ | refine then_normal ?_ | refine inB_normal ?_ | refine then_exit ?_ | refine inB_here ?_ | refine WP_skip ?_ | refine WP_exit ?_ | refine WP_condF rfl ?_ | (refine g_guard ?_; refine st_off rfl ?_) | (refine g_move ?_; refine st_move rfl ?_) | (refine g_assign ?_; refine st_assign rfl ?_) | (refine g_pick ?_; first | refine st_pickT rfl rfl ?_ | refine st_pickF rfl rfl ?_) | (refine g_b_add ?_; (refine st_val rfl (r_addN rfl rfl ?_ ?_) ?_; (first | omega | (simp <;> omega)); (first | omega | (simp <;> omega)))) | (refine g_b_neq ?_; refine st_val rfl (r_neq rfl rfl) ?_) | (refine g_b_lss ?_; refine st_val rfl (r_lss rfl rfl) ?_) | (refine g_b_leq ?_; refine st_val rfl (r_leq rfl rfl) ?_) | (refine g_b_gtr ?_; refine st_val rfl (r_gtr rfl rfl) ?_) | (refine g_c_len ?_; refine st_val rfl (r_lenSlice rfl) ?_) | (refine g_fieldAddr ?_; first | refine st_val rfl (r_fieldAddrA rfl) ?_ | refine st_val rfl (r_fieldAddr rfl) ?_) | (refine g_indexAddr ?_; (refine st_val rfl (r_indexAddr (S.rdRow (D := fGContract) (i := 0) rfl) rfl rfl ?_ ?_) ?_; (first | omega | (simp <;> omega)); (first | omega | (simp <;> omega)))) | (refine g_load ?_; (refine st_val rfl (r_loadElemF (S.rdRow (D := fGContract) (i := 0) rfl) rfl ?_ ?_ rfl) ?_; (first | omega | (simp <;> omega)); (first | omega | (simp <;> omega)))) | (refine wl_split rfl rfl (fun h => ?_) (fun h => ?_) <;> (fail_if_success (have hh : true = true := h)) <;> (fail_if_success (have hh : false = false := h)) <;> (try simp only [decide_eq_true_eq, decide_eq_false_iff_not, Bool.not_eq_true', Bool.not_eq_false', Int.not_lt, Int.not_le] at h) <;> (try (exfalso; omega)) <;> (try (exfalso; omega; done))) | (refine WP_cond rfl (fun h => ?_) (fun h => ?_) <;> (fail_if_success (have hh : true = true := h)) <;> (fail_if_success (have hh : false = false := h)) <;> (try simp only [decide_eq_true_eq, decide_eq_false_iff_not, Bool.not_eq_true', Bool.not_eq_false', Int.not_lt, Int.not_le] at h) <;> (try (exfalso; omega)) <;> (try (exfalso; omega; done))))
      refine ⟨⟨_, ?_, i + 1, ⟨rfl, rfl, rfl, rfl, rfl, rfl, rfl, by rw [hsn]; rfl, rfl, trivial⟩, S, by omega, by omega, rfl⟩⟩
      omega
  · rw [show i.toNat = M.length by omega, List.take_length] at hs
    refine WP_has hs ?_
    repeat' (first | refine WP_seq ?_ | refine WP_region ?_ | refine wl_nil ?_ | refine then_normal ?_ | refine then_exit ?_ | refine inB_here ?_ | refine WP_ret ?_ | refine WP_exit ?_ | (refine g_move ?_; refine st_move rfl ?_) | (refine g_assign ?_; refine st_assign rfl ?_) | (refine g_pick ?_; refine st_pickT rfl rfl ?_) | (refine g_b_eql ?_; refine st_val rfl (r_eql rfl rfl) ?_) | (refine g_b_lss ?_; refine st_val rfl (r_lss rfl rfl) ?_) | (refine g_c_len ?_; refine st_val rfl (r_lenSlice rfl) ?_) | (refine g_fieldAddr ?_; refine st_val rfl (r_fieldAddrL rfl) ?_) | (refine g_load ?_; refine st_val rfl (r_loadVar (i := 4) S rfl rfl rfl) ?_) | (refine wl_split rfl rfl (fun h => ?_) (fun h => ?_) <;> (fail_if_success (have hh : true = true := h)) <;> (fail_if_success (have hh : false = false := h)) <;> (try simp only [decide_eq_true_eq, decide_eq_false_iff_not, Bool.not_eq_true', Bool.not_eq_false', Int.not_lt, Int.not_le] at h) <;> (try (exfalso; omega)) <;> (try (exfalso; omega; done))) | (refine WP_cond rfl (fun h => ?_) (fun h => ?_) <;> (fail_if_success (have hh : true = true := h)) <;> (fail_if_success (have hh : false = false := h)) <;> (try simp only [decide_eq_true_eq, decide_eq_false_iff_not, Bool.not_eq_true', Bool.not_eq_false', Int.not_lt, Int.not_le] at h) <;> (try (exfalso; omega)) <;> (try (exfalso; omega; done))))
    all_goals
      refine end1 rfl rfl ⟨rb ?_, S.below⟩
      first | rfl | (simp [hsO, hsP])
end Go.Proofs.YtgdmaadikcnagaaDoor
