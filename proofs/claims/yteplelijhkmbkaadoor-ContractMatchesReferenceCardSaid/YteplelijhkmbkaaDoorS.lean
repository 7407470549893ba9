import Derived.Test.YteplelijhkmbkaaDoorR
namespace Go.Proofs.YteplelijhkmbkaaDoor
open Go Go.Gx Go.RowKit
set_option linter.unusedVariables false
set_option linter.unusedSimpArgs false

/-- A number set behind those that are not greater. -/
def insO (sp : List GSpot) (out : List Int) (i : Int) : List Int := out.takeWhile (fun e => !cS sp i e) ++ i :: out.dropWhile (fun e => !cS sp i e)
def ordN (sp : List GSpot) : Nat → List Int
  | 0 => []
  | n + 1 => insO sp (ordN sp n) n
def ordI (sp : List GSpot) : List Int := ordN sp sp.length
theorem sorted_drop {c : Int → Int → Bool} (hc : SW c) {i : Int} : ∀ {l : List Int}, l.Pairwise (RS c) → (∀ y ∈ l, y < i) → ∀ b ∈ l.dropWhile (fun e => !c i e), c i b = true
  | [], _, _, b, hb => by cases hb
  | x :: l, hp, hlt, b, hb => by
    rw [List.dropWhile_cons] at hb
    cases hx : c i x with
    | false =>
      rw [hx] at hb
      simp only [Bool.not_false, if_true] at hb
      exact sorted_drop hc (List.pairwise_cons.1 hp).2 (fun y hy => hlt y (List.mem_cons_of_mem _ hy)) b hb
    | true =>
      rw [hx] at hb
      simp only [Bool.not_true, Bool.false_eq_true, if_false] at hb
      rcases List.mem_cons.1 hb with rfl | hb
      · exact hx
      · rcases (List.pairwise_cons.1 hp).1 b hb with h | ⟨h, _⟩
        · exact hc.trans _ _ _ hx h
        · cases e : c i b with
          | true => rfl
          | false => have := hc.ntrans _ _ _ e h; rw [hx] at this; cases this
theorem takeWhile_last {c : Int → Bool} {l : List Int} {A' : List Int} {y : Int} (h : l.takeWhile (fun e => !c e) = A' ++ [y]) : c y = false := by
  have hm : y ∈ l.takeWhile (fun e => !c e) := by rw [h]; simp
  have h2 : ∀ x ∈ l.takeWhile (fun e => !c e), (!c x) = true := by
    intro x hx
    have := List.all_takeWhile (p := fun e => !c e) (l := l)
    exact List.all_eq_true.1 this x hx
  have := h2 y hm
  simpa using this
theorem ordN_ok (sp : List GSpot) : ∀ n, (ordN sp n).Perm (tab idf n) ∧ (ordN sp n).Pairwise (RS (cS sp))
  | 0 => ⟨List.Perm.refl _, List.Pairwise.nil⟩
  | n + 1 => by
    obtain ⟨hp, hw⟩ := ordN_ok sp n
    have hlt : ∀ y ∈ ordN sp n, y < (n : Int) := fun y hy => by
      have := hp.mem_iff.1 hy
      unfold tab at this
      obtain ⟨k, hk, rfl⟩ := List.mem_map.1 this
      have := List.mem_range.1 hk; simp only [idf]; omega
    have e : (ordN sp n).takeWhile (fun e => !cS sp n e) ++ (ordN sp n).dropWhile (fun e => !cS sp n e) = ordN sp n := List.takeWhile_append_dropWhile
    refine ⟨?_, ?_⟩
    · show (insO sp (ordN sp n) n).Perm _
      unfold insO
      refine List.perm_middle.trans ?_
      have et : tab idf (n + 1) = tab idf n ++ [(n : Int)] := by unfold tab; rw [List.range_succ, List.map_append]; rfl
      rw [e, et]
      exact (List.perm_append_singleton _ _).symm.trans (hp.append_right _)
    · show (insO sp (ordN sp n) n).Pairwise _
      unfold insO
      refine put_fits (cS_sw sp) (by rw [e]; exact hw) (by rw [e]; exact hlt) (fun A' y h => takeWhile_last h) (sorted_drop (cS_sw sp) hw hlt)
theorem ordI_ok (sp : List GSpot) : Ord sp (ordI sp) := ⟨(ordN_ok sp sp.length).1, (ordN_ok sp sp.length).2⟩
theorem Ord.eq {sp : List GSpot} {t : List Int} (h : Ord sp t) : t = ordI sp := h.uniq (ordI_ok sp)
/-- The spots that count, by their numbers. -/
def cntI (l : List GContract) (sp : List GSpot) : List Int := outOf l sp (ordI sp)
abbrev cntS (l : List GContract) (sp : List GSpot) : List GSpot := spAt sp (cntI l sp)
theorem cntI_mem {l : List GContract} {sp : List GSpot} {x : Int} (hx : x ∈ cntI l sp) : 0 ≤ x ∧ x < sp.length := (ordI_ok sp).mem (outOf_mem hx)
theorem cntI_len (l : List GContract) (sp : List GSpot) : (cntI l sp).length ≤ sp.length := by
  have := outOf_len (l := l) (sp := sp) (ordI sp); rw [(ordI_ok sp).len] at this; exact this
theorem cntS_mem {l : List GContract} {sp : List GSpot} {s : GSpot} (hs : s ∈ cntS l sp) : s ∈ sp := spAt_mem (fun x hx => (ordI_ok sp).mem hx) s hs
def okI (l : List GContract) (sp : List GSpot) : Bool := validC l && validP sp
def countedI (l : List GContract) (sp : List GSpot) : List Int × Int := if okI l sp then (cntI l sp, 0) else ([], 120)
def reasonI (l : List GContract) (sp : List GSpot) (x : GSpot) : Int × Int := if okI l sp && okP x then (rsn l (cntS l sp) x, 0) else (0, 120)
def mayI (l : List GContract) (sp : List GSpot) (t : Int) : List Int × Int := if okI l sp && inR t 0 9999999 then ((l.filter fun c => decide (rsn l (cntS l sp) ⟨c.ID, t⟩ = 0)).map fun c => c.ID, 0) else ([], 120)
def missI (cnt : List GSpot) (now : Int) (c : GContract) : Int := if c.Window.To ≤ now then c.Count - cntC cnt c.ID else 0
def missingI (l : List GContract) (sp : List GSpot) (now : Int) : List Int × Int := if okI l sp && inR now 0 10000000 then (l.map (missI (cntS l sp) now), 0) else ([], 120)
theorem good_is {x : GSpot} {b : Bool} {w0 : World} (h : okP x = b) : CallsV Tryd.prog 41 #[.agg x.enc.toArray] w0 (.bool b) := by rw [← h]; exact good_spec
theorem btw_is {n lo hi : Int} {b : Bool} {w0 : World} (h : inR n lo hi = b) : CallsV Tryd.prog 43 #[.int .i64 n, .int .i64 lo, .int .i64 hi] w0 (.bool b) := by rw [← h]; exact btw_spec
theorem in_is {n lo hi : Int} {b : Bool} {w0 : World} (h : inR n lo hi = b) : CallsV Tryd.prog 45 #[.int .i64 n, .int .i64 lo, .int .i64 hi] w0 (.bool b) := by rw [← h]; exact in_spec
theorem okI_t {l : List GContract} {sp : List GSpot} (h : okI l sp = true) : validC l = true ∧ validP sp = true := Bool.and_eq_true_iff.1 h
theorem okI_f {l : List GContract} {sp : List GSpot} (h : okI l sp = false) : ¬ (validC l = true ∧ validP sp = true) := fun e => by
  unfold okI at h; rw [e.1, e.2] at h; cases h
/-- The answer of a function with a row and an error. -/
abbrev RowE (w0 : World) (r : List Int × Int) (v : Value) (w' : World) : Prop := ∃ vo, v = .tuple #[vo, .int .i64 r.2] ∧ NewRow (fInt .i64) 3 w0 w' vo r.1
abbrev talO (bt b1 b2 b3 b4 : Nat) (l : List GContract) (Sp : List (GSpot × Bool)) (Mn : List (Int × Int)) (Dy : List (GDay × Int)) (vo : Value) (out : List Int) : List Ob :=
  [mapOb eI eC b1 (cM l), mapOb eP eB b2 Sp, mapOb eI eI b3 Mn, mapOb eD eI b4 Dy, .var bt 78 [.map (some b1), .map (some b2), .map (some b3), .map (some b4)], rowOb (fInt .i64) 3 vo out]
theorem talO_at {w0 w : World} {bt b1 b2 b3 b4 : Nat} {l : List GContract} {Sp : List (GSpot × Bool)} {Mn : List (Int × Int)} {Dy : List (GDay × Int)} {vo : Value} {out : List Int} {os : List Ob} (S : St w0 w (talO bt b1 b2 b3 b4 l Sp Mn Dy vo out ++ os)) : TalAt w bt b1 b2 b3 b4 (cM l) Sp Mn Dy :=
  ⟨S.var (i := 4) rfl, S.mapAt (i := 0) rfl, S.mapAt (i := 1) rfl, S.mapAt (i := 2) rfl, S.mapAt (i := 3) rfl⟩
theorem count_run {l : List GContract} {sp : List GSpot} {v1 v2 : Value} {w0 : World} (hr1 : Rd fGContract.ty w0 v1 l) (hr2 : Rd fGSpot.ty w0 v2 sp) (h : okI l sp = true) (hG : TblAt w0) :
    CallsR Tryd.prog 36 #[v1, v2] w0 (fun r w' => ∃ (bt b1 b2 b3 b4 : Nat) (Sp : List (GSpot × Bool)) (Mn : List (Int × Int)) (Dy : List (GDay × Int)) (vo : Value), r = .tuple #[.pointer (some ⟨bt, 0, none⟩), vo, .int .i64 0] ∧ Tal l (cntS l sp) (cM l) Sp Mn Dy ∧ St w0 w' (talO bt b1 b2 b3 b4 l Sp Mn Dy vo (cntI l sp))) := by
  obtain ⟨h1, h2⟩ := okI_t h
  refine callsR_mono (count_ok hr1 hr2 h1 h2 hG) ?_
  rintro v w' ⟨bt, b1, b2, b3, b4, Sp, Mn, Dy, vo, turn, hO, rfl, hT, S⟩
  have e := hO.eq
  subst e
  exact ⟨bt, b1, b2, b3, b4, Sp, Mn, Dy, vo, rfl, hT, S⟩
theorem counted_run {l : List GContract} {sp : List GSpot} {v1 v2 : Value} {w0 : World} (hr1 : Rd fGContract.ty w0 v1 l) (hr2 : Rd fGSpot.ty w0 v2 sp) (hl : l.length ≤ 1000000000) (hl2 : sp.length ≤ 1000000000) (hG : TblAt w0) :
    CallsR Tryd.prog 17 #[v1, v2] w0 (RowE w0 (countedI l sp)) := by
  have S := St.start w0
  refine CallsR.mk ?_
  refine calls_enter Tryd.func17 rfl (by intro _ h; first | exact nomatch h.1 | (obtain ⟨_, h, _⟩ := h; exact nomatch h)) Tryd.ntmps17 rfl ?_
  cases h : okI l sp with
  | false =>
    repeat' (first | refine WP_seq ?_ | refine WP_region ?_ | refine wl_nil ?_ | refine then_normal ?_ | refine WP_ret ?_ | (refine g_move ?_; refine st_move rfl ?_) | (refine g_assign ?_; refine st_assign rfl ?_) | (refine g_extract ?_; refine st_val rfl (r_extract rfl rfl) ?_) | (refine g_callV ?_; (refine st_callV rfl (r_call2 rfl rfl rfl) (count_no (hr1.mono S.below) (hr2.mono S.below) hl hl2 (okI_f h)) ?_; intro w hb; replace S := S.grow hb; clear hb)))
    exact end2 rfl rfl rfl ⟨_, rfl, S.below, _, by unfold countedI; rw [h]; rfl, by unfold countedI; rw [h]; exact NewRow.nil _ _ _ _⟩
  | true =>
    repeat' (first | refine WP_seq ?_ | refine WP_region ?_ | refine wl_nil ?_ | refine then_normal ?_ | (refine g_move ?_; refine st_move rfl ?_) | (refine g_assign ?_; refine st_assign rfl ?_))
    refine st_callR rfl (r_call2 rfl rfl rfl) (count_run (hr1.mono S.below) (hr2.mono S.below) h (hG.mono S.below)) ?_
    rintro _ w hb ⟨bt, b1, b2, b3, b4, Sp, Mn, Dy, vo, rfl, hT, S'⟩
    replace S := S.join S'; clear S'
    repeat' (first | refine WP_seq ?_ | refine WP_region ?_ | refine wl_nil ?_ | refine then_normal ?_ | refine WP_ret ?_ | (refine g_move ?_; refine st_move rfl ?_) | (refine g_assign ?_; refine st_assign rfl ?_) | (refine g_extract ?_; refine st_val rfl (r_extract rfl rfl) ?_))
    exact end2 rfl rfl rfl ⟨_, rfl, S.below, vo, by unfold countedI; rw [h]; rfl, by unfold countedI; rw [h]; exact S.row (i := 5) rfl⟩
theorem reasonC_run {l : List GContract} {sp : List GSpot} {x : GSpot} {v1 v2 : Value} {w0 : World} (hr1 : Rd fGContract.ty w0 v1 l) (hr2 : Rd fGSpot.ty w0 v2 sp) (hl : l.length ≤ 1000000000) (hl2 : sp.length ≤ 1000000000) (hG : TblAt w0) :
    CallsV Tryd.prog 26 #[v1, v2, .agg x.enc.toArray] w0 (.tuple #[.int .i64 (reasonI l sp x).1, .int .i64 (reasonI l sp x).2]) := by
  have S := St.start w0
  refine CallsV.mk ?_
  refine calls_enter Tryd.func26 rfl (by intro _ h; first | exact nomatch h.1 | (obtain ⟨_, h, _⟩ := h; exact nomatch h)) Tryd.ntmps26 rfl ?_
  cases h : okI l sp with
  | false =>
    repeat' (first | refine WP_seq ?_ | refine WP_region ?_ | refine wl_nil ?_ | refine then_normal ?_ | refine then_ret ?_ | refine WP_ret ?_ | refine WP_condT rfl ?_ | (refine g_guard ?_; refine st_off rfl ?_) | (refine g_move ?_; refine st_move rfl ?_) | (refine g_assign ?_; refine st_assign rfl ?_) | (refine g_pick ?_; refine st_pickT rfl rfl ?_) | (refine g_b_neq ?_; refine st_val rfl (r_neq rfl rfl) ?_) | (refine g_extract ?_; refine st_val rfl (r_extract rfl rfl) ?_) | (refine g_callV ?_; (refine st_callV rfl (r_call2 rfl rfl rfl) (count_no (hr1.mono S.below) (hr2.mono S.below) hl hl2 (okI_f h)) ?_; intro w hb; replace S := S.grow hb; clear hb)) | (refine g_box ?_; refine st_valE rfl (r_box S rfl) ?_; rintro _ w ⟨b, rfl, -, S'⟩; replace S := S'; clear S'))
    exact end2 rfl rfl rfl ⟨by unfold reasonI; rw [h]; rfl, S.below⟩
  | true =>
    repeat' (first | refine WP_seq ?_ | refine WP_region ?_ | refine wl_nil ?_ | refine then_normal ?_ | (refine g_move ?_; refine st_move rfl ?_) | (refine g_assign ?_; refine st_assign rfl ?_) | (refine g_box ?_; refine st_valE rfl (r_box S rfl) ?_; rintro _ w ⟨b, rfl, -, S'⟩; replace S := S'; clear S'))
    refine st_callR rfl (r_call2 rfl rfl rfl) (count_run (hr1.mono S.below) (hr2.mono S.below) h (hG.mono S.below)) ?_
    rintro _ w hb ⟨bt, b1, b2, b3, b4, Sp, Mn, Dy, vo, rfl, hT, S'⟩
    replace S := (S.join S').perm (List.perm_append_comm); clear S'
    have hsr : ∀ s ∈ Sp, 0 ≤ s.1.At ∧ s.1.At ≤ 9999999 := by
      intro s hs
      rw [hT.s] at hs
      obtain ⟨y, hy, rfl⟩ := List.mem_map.1 hs
      exact (validP_at (okI_t h).2 (cntS_mem hy)).2.2
    cases hx : okP x with
    | false =>
      repeat' (first | refine WP_seq ?_ | refine WP_region ?_ | refine wl_nil ?_ | refine then_normal ?_ | refine then_ret ?_ | refine WP_ret ?_ | refine WP_condT rfl ?_ | (refine g_move ?_; refine st_move rfl ?_) | (refine g_assign ?_; refine st_assign rfl ?_) | (refine g_pick ?_; refine st_pickF rfl rfl ?_) | (refine g_b_neq ?_; refine st_val rfl (r_neq rfl rfl) ?_) | (refine g_un ?_; refine st_val rfl (r_not rfl) ?_) | (refine g_extract ?_; refine st_val rfl (r_extract rfl rfl) ?_) | (refine g_load ?_; refine st_val rfl (r_loadVarA (i := 6) S rfl rfl rfl rfl) ?_) | (refine g_callV ?_; (refine st_callV rfl (r_call1 rfl rfl) (good_is hx) ?_; intro w hb; replace S := S.grow hb; clear hb)))
      exact end2 rfl rfl rfl ⟨by unfold reasonI; rw [h, hx]; rfl, S.below⟩
    | true =>
      have hxr : 0 ≤ x.Contract ∧ x.Contract ≤ 99 ∧ 0 ≤ x.At ∧ x.At ≤ 9999999 := of_decide_eq_true hx
      repeat' (first | refine WP_seq ?_ | refine WP_region ?_ | refine wl_nil ?_ | refine then_normal ?_ | refine WP_ret ?_ | refine WP_skip ?_ | refine WP_condF rfl ?_ | (refine g_move ?_; refine st_move rfl ?_) | (refine g_assign ?_; refine st_assign rfl ?_) | (refine g_pick ?_; refine st_pickF rfl rfl ?_) | (refine g_b_neq ?_; refine st_val rfl (r_neq rfl rfl) ?_) | (refine g_un ?_; refine st_val rfl (r_not rfl) ?_) | (refine g_extract ?_; refine st_val rfl (r_extract rfl rfl) ?_) | (refine g_load ?_; refine st_val rfl (r_loadVarA (i := 6) S rfl rfl rfl rfl) ?_) | (refine g_callV ?_; first | (refine st_callV rfl (r_call1 rfl rfl) (good_is hx) ?_; intro w hb; replace S := S.grow hb; clear hb) | (refine st_callV rfl (r_call2 rfl rfl rfl) (reason_is (hT.rsn x) (talO_at S) (hG.mono S.below) ⟨hxr.2.2.1, hxr.2.2.2⟩ hsr) ?_; intro w hb; replace S := S.grow hb; clear hb)))
      exact end2 rfl rfl rfl ⟨by unfold reasonI; rw [h, hx]; rfl, S.below⟩
theorem inR_t {n lo hi : Int} (h : inR n lo hi = true) : lo ≤ n ∧ n ≤ hi := of_decide_eq_true h
theorem tal_sr {l : List GContract} {sp : List GSpot} {C : List (Int × GContract)} {Sp : List (GSpot × Bool)} {Mn : List (Int × Int)} {Dy : List (GDay × Int)} (h : okI l sp = true) (hT : Tal l (cntS l sp) C Sp Mn Dy) : ∀ s ∈ Sp, 0 ≤ s.1.At ∧ s.1.At ≤ 9999999 := by
  intro s hs
  rw [hT.s] at hs
  obtain ⟨y, hy, rfl⟩ := List.mem_map.1 hs
  exact (validP_at (okI_t h).2 (cntS_mem hy)).2.2
theorem take_filter {p : GContract → Bool} {l : List GContract} {i : Int} (h0 : 0 ≤ i) (hi : i < l.length) : ((l.take (i + 1).toNat).filter p).map (fun c => c.ID) = ((l.take i.toNat).filter p).map (fun c => c.ID) ++ (if p (nth l i) then [(nth l i).ID] else []) := by
  rw [show (i + 1).toNat = i.toNat + 1 by omega, List.take_add_one, nth_get h0 hi, Option.toList_some, List.filter_append, List.map_append]
  congr 1
  cases h : p (nth l i) with
  | true => simp [h]
  | false => simp [h]
theorem take_map {f : GContract → Int} {l : List GContract} {i : Int} (h0 : 0 ≤ i) (hi : i < l.length) : (l.take (i + 1).toNat).map f = (l.take i.toNat).map f ++ [f (nth l i)] := by
  rw [show (i + 1).toNat = i.toNat + 1 by omega, List.take_add_one, nth_get h0 hi, Option.toList_some, List.map_append]; rfl
def mayP (l : List GContract) (sp : List GSpot) (t : Int) (c : GContract) : Bool := decide (rsn l (cntS l sp) ⟨c.ID, t⟩ = 0)
theorem mayC_run {l : List GContract} {sp : List GSpot} {t : Int} {v1 v2 : Value} {w0 : World} (hr1 : Rd fGContract.ty w0 v1 l) (hr2 : Rd fGSpot.ty w0 v2 sp) (hl : l.length ≤ 1000000000) (hl2 : sp.length ≤ 1000000000) (hG : TblAt w0) :
    CallsR Tryd.prog 22 #[v1, v2, .int .i64 t] w0 (RowE w0 (mayI l sp t)) := by
  have S := St.start w0
  obtain ⟨A, c, rfl⟩ := hr1.len
  refine CallsR.mk ?_
  refine calls_enter Tryd.func22 rfl (by intro _ h; first | exact nomatch h.1 | (obtain ⟨_, h, _⟩ := h; exact nomatch h)) Tryd.ntmps22 rfl ?_
  cases h : okI l sp with
  | false =>
    repeat' (first | refine WP_seq ?_ | refine WP_region ?_ | refine wl_nil ?_ | refine then_normal ?_ | refine then_ret ?_ | refine WP_ret ?_ | refine WP_condT rfl ?_ | (refine g_guard ?_; refine st_off rfl ?_) | (refine g_move ?_; refine st_move rfl ?_) | (refine g_assign ?_; refine st_assign rfl ?_) | (refine g_pick ?_; refine st_pickT rfl rfl ?_) | (refine g_b_neq ?_; refine st_val rfl (r_neq rfl rfl) ?_) | (refine g_extract ?_; refine st_val rfl (r_extract rfl rfl) ?_) | (refine g_callV ?_; (refine st_callV rfl (r_call2 rfl rfl rfl) (count_no (hr1.mono S.below) (hr2.mono S.below) hl hl2 (okI_f h)) ?_; intro w hb; replace S := S.grow hb; clear hb)))
    exact end2 rfl rfl rfl ⟨_, rfl, S.below, _, by unfold mayI; rw [h]; rfl, by unfold mayI; rw [h]; exact NewRow.nil _ _ _ _⟩
  | true =>
    have hl12 := validC_len (okI_t h).1
    repeat' (first | refine WP_seq ?_ | refine WP_region ?_ | refine wl_nil ?_ | refine then_normal ?_ | (refine g_move ?_; refine st_move rfl ?_) | (refine g_assign ?_; refine st_assign rfl ?_))
    refine st_callR rfl (r_call2 rfl rfl rfl) (count_run (hr1.mono S.below) (hr2.mono S.below) h (hG.mono S.below)) ?_
    rintro _ w hb ⟨bt, b1, b2, b3, b4, Sp, Mn, Dy, vo, rfl, hT, S'⟩
    replace S := S.join S'; clear S'
    have hsr := tal_sr h hT
    cases ht : inR t 0 9999999 with
    | false =>
      repeat' (first | refine WP_seq ?_ | refine WP_region ?_ | refine wl_nil ?_ | refine then_normal ?_ | refine then_ret ?_ | refine WP_ret ?_ | refine WP_condT rfl ?_ | (refine g_move ?_; refine st_move rfl ?_) | (refine g_assign ?_; refine st_assign rfl ?_) | (refine g_pick ?_; refine st_pickF rfl rfl ?_) | (refine g_b_neq ?_; refine st_val rfl (r_neq rfl rfl) ?_) | (refine g_un ?_; refine st_val rfl (r_not rfl) ?_) | (refine g_extract ?_; refine st_val rfl (r_extract rfl rfl) ?_) | (refine g_callV ?_; (refine st_callV rfl (r_call3 rfl rfl rfl rfl) (btw_is ht) ?_; intro w hb; replace S := S.grow hb; clear hb)))
      exact end2 rfl rfl rfl ⟨_, rfl, S.below, _, by unfold mayI; rw [h, ht]; rfl, by unfold mayI; rw [h, ht]; exact NewRow.nil _ _ _ _⟩
    | true =>
      have htr := inR_t ht
      have em : mayI l sp t = ((l.filter (mayP l sp t)).map fun c => c.ID, 0) := by unfold mayI; rw [h, ht]; rfl
      rw [em]
      repeat' (first | refine WP_seq ?_ | refine WP_region ?_ | refine wl_nil ?_ | refine then_normal ?_ | refine WP_skip ?_ | refine WP_block ?_ | refine WP_condF rfl ?_ | (refine g_move ?_; refine st_move rfl ?_) | (refine g_assign ?_; refine st_assign rfl ?_) | (refine g_pick ?_; refine st_pickF rfl rfl ?_) | (refine g_b_neq ?_; refine st_val rfl (r_neq rfl rfl) ?_) | (refine g_un ?_; refine st_val rfl (r_not rfl) ?_) | (refine g_extract ?_; refine st_val rfl (r_extract rfl rfl) ?_) | (refine g_c_len ?_; refine st_val rfl (r_lenSlice rfl) ?_) | (refine g_callV ?_; (refine st_callV rfl (r_call3 rfl rfl rfl rfl) (btw_is ht) ?_; intro w hb; replace S := S.grow hb; clear hb)))
      replace S := S.nilRow (fInt .i64) 3
      refine WP_loop (fun k σ w1 => ∃ (i : Int) (vr : Value), Has σ [(2, .int .i64 t), (8, .pointer (some ⟨bt, 0, none⟩)), (11, vr), (28, .slice A l.length c), (29, .int .i64 l.length), (30, .int .i64 i)] ∧ St w0 w1 (talO bt b1 b2 b3 b4 l Sp Mn Dy vo (cntI l sp) ++ [rowOb (fInt .i64) 3 vr (((l.take i.toNat).filter (mayP l sp t)).map fun c => c.ID)]) ∧ 0 ≤ i ∧ i ≤ l.length ∧ k = l.length - i.toNat) l.length ⟨0, _, ⟨rfl, rfl, rfl, rfl, rfl, rfl, trivial⟩, S, by omega, by omega, by omega⟩ ?_
      clear S
      rintro k σ w1 ⟨i, vr, hs, S, hi0, hi1, hk⟩
      refine WP_has hs ?_
      by_cases hi : i < l.length
      · have hstep := take_filter (p := mayP l sp t) hi0 hi
        have hlr : (((l.take i.toNat).filter (mayP l sp t)).map fun c => c.ID).length ≤ 12 := by
          rw [List.length_map]
          have := List.length_filter_le (mayP l sp t) (l.take i.toNat)
          rw [List.length_take] at this; omega
        by_cases h0 : rsn l (cntS l sp) ⟨(nth l i).ID, t⟩ = 0
        · have hp : mayP l sp t (nth l i) = true := decide_eq_true h0
          rw [hp, if_pos rfl] at hstep
          repeat' (first | refine WP_seq ?_ | refine WP_region ?_ | refine wl_nil ?_ | refine then_normal ?_ | refine WP_skip ?_ | refine WP_block ?_ | refine WP_condT rfl ?_ | (refine g_move ?_; refine st_move rfl ?_) | (refine g_b_eql ?_; refine st_val rfl (r_eql rfl rfl) ?_) | (refine g_b_lss ?_; refine st_val rfl (r_lss rfl rfl) ?_) | (refine g_build ?_; refine st_val rfl (bd31_0_1 rfl rfl) ?_) | (refine g_fieldAddr ?_; refine st_val rfl (r_fieldAddrL rfl) ?_) | (refine g_indexAddr ?_; (refine st_val rfl (r_indexAddr (hr1.mono S.below) rfl rfl ?_ ?_) ?_; (first | omega | (simp <;> omega)); (first | omega | (simp <;> omega)))) | (refine g_load ?_; first | (refine st_val rfl (r_loadElem (hr1.mono S.below) rfl ?_ ?_) ?_; (first | omega | (simp <;> omega)); (first | omega | (simp <;> omega))) | refine st_val rfl (r_loadVar (i := 7) S rfl rfl rfl) ?_) | (refine g_callV ?_; (refine st_callV rfl (r_call2 rfl rfl rfl) (reason_is (x := ⟨(nth l i).ID, t⟩) ((hT.rsn _).trans h0) (talO_at S) (hG.mono S.below) htr hsr) ?_; intro w hb; replace S := S.grow hb; clear hb)) | (refine g_alloc ?_; refine st_valE rfl (r_alloc S) ?_; rintro _ w ⟨b, rfl, -, S'⟩; replace S := S'; clear S') | (refine g_store ?_; first | (refine st_skipE rfl (r_storeVar (i := 0) S rfl rfl rfl rfl (of_decide_eq_true rfl) (of_decide_eq_true rfl)) ?_; intro w S'; replace S := S'; clear S') | (refine st_skipE rfl (r_storeVar (i := 1) S rfl rfl rfl rfl (of_decide_eq_true rfl) (of_decide_eq_true rfl)) ?_; intro w S'; replace S := S'; clear S') | (refine st_skipE rfl (r_storeVar (i := 2) S rfl rfl rfl rfl (of_decide_eq_true rfl) (of_decide_eq_true rfl)) ?_; intro w S'; replace S := S'; clear S') | (refine st_skipE rfl (r_storeVar (i := 3) S rfl rfl rfl rfl (of_decide_eq_true rfl) (of_decide_eq_true rfl)) ?_; intro w S'; replace S := S'; clear S') | (refine st_skipE rfl (r_storeVar (i := 4) S rfl rfl rfl rfl (of_decide_eq_true rfl) (of_decide_eq_true rfl)) ?_; intro w S'; replace S := S'; clear S') | (refine st_skipE rfl (r_storeVar (i := 5) S rfl rfl rfl rfl (of_decide_eq_true rfl) (of_decide_eq_true rfl)) ?_; intro w S'; replace S := S'; clear S') | (refine st_skipE rfl (r_storeVar (i := 6) S rfl rfl rfl rfl (of_decide_eq_true rfl) (of_decide_eq_true rfl)) ?_; intro w S'; replace S := S'; clear S') | (refine st_skipE rfl (r_storeVar (i := 7) S rfl rfl rfl rfl (of_decide_eq_true rfl) (of_decide_eq_true rfl)) ?_; intro w S'; replace S := S'; clear S')) | (refine WP_cond rfl (fun h => ?_) (fun h => ?_) <;> (fail_if_success (have hh : true = true := h)) <;> (fail_if_success (have hh : false = false := h)) <;> (try simp only [decide_eq_true_eq, decide_eq_false_iff_not, Bool.not_eq_true', Bool.not_eq_false', Int.not_lt, Int.not_le] at h) <;> (try (exfalso; omega))))
          refine st_valE rfl (r_litF (D := fInt .i64) [(nth l i).ID] (Value.int .i64) S rfl rfl (fun _ => rfl) rfl (by decide) (by decide)) ?_
          rintro _ w ⟨bl, rfl, -, hcl, S'⟩; replace S := S'; clear S'
          refine st_valE rfl (r_append1 (D := fInt .i64) (i := 6) (b := bl) (x := (nth l i).ID) S rfl rfl rfl (fl_one hcl) rfl (by decide) (of_decide_eq_true rfl) (by omega) (by omega)) ?_
          rintro vr' w ⟨-, S'⟩; replace S := S'; clear S' hcl
          repeat' (first | refine WP_region ?_ | refine wl_nil ?_ | refine then_normal ?_ | refine inB_normal ?_ | (refine g_move ?_; refine st_move rfl ?_) | (refine g_assign ?_; refine st_assign rfl ?_) | (refine g_b_add ?_; (refine st_val rfl (r_addN rfl rfl ?_ ?_) ?_; (first | omega | (simp <;> omega)); (first | omega | (simp <;> omega)))))
          refine ⟨⟨_, ?_, i + 1, vr', ⟨rfl, rfl, rfl, rfl, rfl, rfl, trivial⟩, by rw [hstep]; exact S.keep [true, true, true, true, true, true, true], by omega, by omega, rfl⟩⟩
          omega
        · have hp : mayP l sp t (nth l i) = false := decide_eq_false h0
          rw [hp] at hstep
          obtain ⟨z, hz⟩ : ∃ z, rsn l (cntS l sp) ⟨(nth l i).ID, t⟩ = z := ⟨_, rfl⟩
          rw [hz] at h0
          repeat' (first | refine WP_seq ?_ | refine WP_region ?_ | refine wl_nil ?_ | refine then_normal ?_ | refine inB_normal ?_ | refine WP_skip ?_ | refine WP_block ?_ | (refine g_move ?_; refine st_move rfl ?_) | (refine g_b_add ?_; (refine st_val rfl (r_addN rfl rfl ?_ ?_) ?_; (first | omega | (simp <;> omega)); (first | omega | (simp <;> omega)))) | (refine g_b_eql ?_; refine st_val rfl (r_eql rfl rfl) ?_) | (refine g_b_lss ?_; refine st_val rfl (r_lss rfl rfl) ?_) | (refine g_build ?_; refine st_val rfl (bd31_0_1 rfl rfl) ?_) | (refine g_fieldAddr ?_; refine st_val rfl (r_fieldAddrL rfl) ?_) | (refine g_indexAddr ?_; (refine st_val rfl (r_indexAddr (hr1.mono S.below) rfl rfl ?_ ?_) ?_; (first | omega | (simp <;> omega)); (first | omega | (simp <;> omega)))) | (refine g_load ?_; first | (refine st_val rfl (r_loadElem (hr1.mono S.below) rfl ?_ ?_) ?_; (first | omega | (simp <;> omega)); (first | omega | (simp <;> omega))) | refine st_val rfl (r_loadVar (i := 7) S rfl rfl rfl) ?_) | (refine g_callV ?_; (refine st_callV rfl (r_call2 rfl rfl rfl) (reason_is (x := ⟨(nth l i).ID, t⟩) ((hT.rsn _).trans hz) (talO_at S) (hG.mono S.below) htr hsr) ?_; intro w hb; replace S := S.grow hb; clear hb)) | (refine g_alloc ?_; refine st_valE rfl (r_alloc S) ?_; rintro _ w ⟨b, rfl, -, S'⟩; replace S := S'; clear S') | (refine g_store ?_; first | (refine st_skipE rfl (r_storeVar (i := 0) S rfl rfl rfl rfl (of_decide_eq_true rfl) (of_decide_eq_true rfl)) ?_; intro w S'; replace S := S'; clear S') | (refine st_skipE rfl (r_storeVar (i := 1) S rfl rfl rfl rfl (of_decide_eq_true rfl) (of_decide_eq_true rfl)) ?_; intro w S'; replace S := S'; clear S') | (refine st_skipE rfl (r_storeVar (i := 2) S rfl rfl rfl rfl (of_decide_eq_true rfl) (of_decide_eq_true rfl)) ?_; intro w S'; replace S := S'; clear S') | (refine st_skipE rfl (r_storeVar (i := 3) S rfl rfl rfl rfl (of_decide_eq_true rfl) (of_decide_eq_true rfl)) ?_; intro w S'; replace S := S'; clear S') | (refine st_skipE rfl (r_storeVar (i := 4) S rfl rfl rfl rfl (of_decide_eq_true rfl) (of_decide_eq_true rfl)) ?_; intro w S'; replace S := S'; clear S') | (refine st_skipE rfl (r_storeVar (i := 5) S rfl rfl rfl rfl (of_decide_eq_true rfl) (of_decide_eq_true rfl)) ?_; intro w S'; replace S := S'; clear S') | (refine st_skipE rfl (r_storeVar (i := 6) S rfl rfl rfl rfl (of_decide_eq_true rfl) (of_decide_eq_true rfl)) ?_; intro w S'; replace S := S'; clear S') | (refine st_skipE rfl (r_storeVar (i := 7) S rfl rfl rfl rfl (of_decide_eq_true rfl) (of_decide_eq_true rfl)) ?_; intro w S'; replace S := S'; clear S')) | (refine WP_cond rfl (fun h => ?_) (fun h => ?_) <;> (fail_if_success (have hh : true = true := h)) <;> (fail_if_success (have hh : false = false := h)) <;> (try simp only [decide_eq_true_eq, decide_eq_false_iff_not, Bool.not_eq_true', Bool.not_eq_false', Int.not_lt, Int.not_le] at h) <;> (try (exfalso; omega))))
          refine ⟨⟨_, ?_, i + 1, vr, ⟨rfl, rfl, rfl, rfl, rfl, rfl, trivial⟩, by rw [hstep]; simp only [Bool.false_eq_true, if_false, List.append_nil]; exact S.keep [true, true, true, true, true, true, true], by omega, by omega, rfl⟩⟩
          omega
      · have hit : i.toNat = l.length := by omega
        rw [hit, List.take_length] at S
        repeat' (first | refine WP_seq ?_ | refine WP_region ?_ | refine wl_nil ?_ | refine then_normal ?_ | refine then_exit ?_ | refine inB_here ?_ | refine WP_ret ?_ | refine WP_exit ?_ | (refine g_move ?_; refine st_move rfl ?_) | (refine g_assign ?_; refine st_assign rfl ?_) | (refine g_b_lss ?_; refine st_val rfl (r_lss rfl rfl) ?_) | (refine WP_cond rfl (fun h => ?_) (fun h => ?_) <;> (fail_if_success (have hh : true = true := h)) <;> (fail_if_success (have hh : false = false := h)) <;> (try simp only [decide_eq_true_eq, decide_eq_false_iff_not, Bool.not_eq_true', Bool.not_eq_false', Int.not_lt, Int.not_le] at h) <;> (try (exfalso; omega))))
        exact end2 rfl rfl rfl ⟨_, rfl, S.below, vr, rfl, S.row (i := 6) rfl⟩
theorem missingC_run {l : List GContract} {sp : List GSpot} {t : Int} {v1 v2 : Value} {w0 : World} (hr1 : Rd fGContract.ty w0 v1 l) (hr2 : Rd fGSpot.ty w0 v2 sp) (hl : l.length ≤ 1000000000) (hl2 : sp.length ≤ 1000000000) (hG : TblAt w0) :
    CallsR Tryd.prog 24 #[v1, v2, .int .i64 t] w0 (RowE w0 (missingI l sp t)) := by
  have S := St.start w0
  obtain ⟨A, c, rfl⟩ := hr1.len
  refine CallsR.mk ?_
  refine calls_enter Tryd.func24 rfl (by intro _ h; first | exact nomatch h.1 | (obtain ⟨_, h, _⟩ := h; exact nomatch h)) Tryd.ntmps24 rfl ?_
  cases h : okI l sp with
  | false =>
    repeat' (first | refine WP_seq ?_ | refine WP_region ?_ | refine wl_nil ?_ | refine then_normal ?_ | refine then_ret ?_ | refine WP_ret ?_ | refine WP_condT rfl ?_ | (refine g_guard ?_; refine st_off rfl ?_) | (refine g_move ?_; refine st_move rfl ?_) | (refine g_assign ?_; refine st_assign rfl ?_) | (refine g_pick ?_; refine st_pickT rfl rfl ?_) | (refine g_b_neq ?_; refine st_val rfl (r_neq rfl rfl) ?_) | (refine g_extract ?_; refine st_val rfl (r_extract rfl rfl) ?_) | (refine g_callV ?_; (refine st_callV rfl (r_call2 rfl rfl rfl) (count_no (hr1.mono S.below) (hr2.mono S.below) hl hl2 (okI_f h)) ?_; intro w hb; replace S := S.grow hb; clear hb)))
    exact end2 rfl rfl rfl ⟨_, rfl, S.below, _, by unfold missingI; rw [h]; rfl, by unfold missingI; rw [h]; exact NewRow.nil _ _ _ _⟩
  | true =>
    have hl12 := validC_len (okI_t h).1
    have hp60 := validP_len (okI_t h).2
    have hcl60 : (cntS l sp).length ≤ 60 := by unfold cntS spAt; rw [List.length_map]; have := cntI_len l sp; omega
    repeat' (first | refine WP_seq ?_ | refine WP_region ?_ | refine wl_nil ?_ | refine then_normal ?_ | (refine g_move ?_; refine st_move rfl ?_) | (refine g_assign ?_; refine st_assign rfl ?_))
    refine st_callR rfl (r_call2 rfl rfl rfl) (count_run (hr1.mono S.below) (hr2.mono S.below) h (hG.mono S.below)) ?_
    rintro _ w hb ⟨bt, b1, b2, b3, b4, Sp, Mn, Dy, vo, rfl, hT, S'⟩
    replace S := S.join S'; clear S'
    cases ht : inR t 0 10000000 with
    | false =>
      repeat' (first | refine WP_seq ?_ | refine WP_region ?_ | refine wl_nil ?_ | refine then_normal ?_ | refine then_ret ?_ | refine WP_ret ?_ | refine WP_condT rfl ?_ | (refine g_move ?_; refine st_move rfl ?_) | (refine g_assign ?_; refine st_assign rfl ?_) | (refine g_pick ?_; refine st_pickF rfl rfl ?_) | (refine g_b_neq ?_; refine st_val rfl (r_neq rfl rfl) ?_) | (refine g_un ?_; refine st_val rfl (r_not rfl) ?_) | (refine g_extract ?_; refine st_val rfl (r_extract rfl rfl) ?_) | (refine g_callV ?_; (refine st_callV rfl (r_call3 rfl rfl rfl rfl) (btw_is ht) ?_; intro w hb; replace S := S.grow hb; clear hb)))
      exact end2 rfl rfl rfl ⟨_, rfl, S.below, _, by unfold missingI; rw [h, ht]; rfl, by unfold missingI; rw [h, ht]; exact NewRow.nil _ _ _ _⟩
    | true =>
      have htr := inR_t ht
      have em : missingI l sp t = (l.map (missI (cntS l sp) t), 0) := by unfold missingI; rw [h, ht]; rfl
      rw [em]
      repeat' (first | refine WP_seq ?_ | refine WP_region ?_ | refine wl_nil ?_ | refine then_normal ?_ | refine WP_skip ?_ | refine WP_block ?_ | refine WP_condF rfl ?_ | (refine g_move ?_; refine st_move rfl ?_) | (refine g_assign ?_; refine st_assign rfl ?_) | (refine g_pick ?_; refine st_pickF rfl rfl ?_) | (refine g_b_neq ?_; refine st_val rfl (r_neq rfl rfl) ?_) | (refine g_un ?_; refine st_val rfl (r_not rfl) ?_) | (refine g_extract ?_; refine st_val rfl (r_extract rfl rfl) ?_) | (refine g_c_len ?_; refine st_val rfl (r_lenSlice rfl) ?_) | (refine g_callV ?_; (refine st_callV rfl (r_call3 rfl rfl rfl rfl) (btw_is ht) ?_; intro w hb; replace S := S.grow hb; clear hb)))
      replace S := S.nilRow (fInt .i64) 3
      refine WP_loop (fun k σ w1 => ∃ (i : Int) (vr : Value), Has σ [(2, .int .i64 t), (8, .pointer (some ⟨bt, 0, none⟩)), (11, vr), (29, .slice A l.length c), (30, .int .i64 l.length), (31, .int .i64 i)] ∧ St w0 w1 (talO bt b1 b2 b3 b4 l Sp Mn Dy vo (cntI l sp) ++ [rowOb (fInt .i64) 3 vr ((l.take i.toNat).map (missI (cntS l sp) t))]) ∧ 0 ≤ i ∧ i ≤ l.length ∧ k = l.length - i.toNat) l.length ⟨0, _, ⟨rfl, rfl, rfl, rfl, rfl, rfl, trivial⟩, S, by omega, by omega, by omega⟩ ?_
      clear S
      rintro k σ w1 ⟨i, vr, hs, S, hi0, hi1, hk⟩
      refine WP_has hs ?_
      by_cases hi : i < l.length
      · have hstep := take_map (f := missI (cntS l sp) t) hi0 hi
        have hlr : ((l.take i.toNat).map (missI (cntS l sp) t)).length ≤ 12 := by rw [List.length_map, List.length_take]; omega
        have hcm := hT.m (nth l i).ID
        have hcr := @cntC_le (cntS l sp) (nth l i).ID
        have hok := valid_ok (okI_t h).1 (nth_mem hi0 hi)
        have hcnt : 1 ≤ (nth l i).Count ∧ (nth l i).Count ≤ 50 := by
          unfold okC okN at hok
          simp only [Bool.and_eq_true, decide_eq_true_eq] at hok
          omega
        obtain ⟨z, hz⟩ : ∃ z, missI (cntS l sp) t (nth l i) = z := ⟨_, rfl⟩
        have hz' := hz
        unfold missI at hz'
        rw [← hcm] at hz'
        by_cases h0 : (nth l i).Window.To ≤ t
        · rw [if_pos h0] at hz'
          repeat' (first | refine WP_seq ?_ | refine WP_region ?_ | refine wl_nil ?_ | refine then_normal ?_ | refine WP_skip ?_ | refine WP_block ?_ | refine WP_draw (by kernel_rfl) (by kernel_rfl) ?_ | (refine ql_nil ?_; intro w hb; replace S := S.grow hb; clear hb) | (refine g_move ?_; refine st_move rfl ?_) | (refine g_assign ?_; refine st_assign rfl ?_) | (refine g_b_lss ?_; refine st_val rfl (r_lss rfl rfl) ?_) | (refine g_b_leq ?_; refine st_val rfl (r_leq rfl rfl) ?_) | (refine g_fieldAddr ?_; refine st_val rfl (r_fieldAddrL rfl) ?_) | (refine g_indexAddr ?_; (refine st_val rfl (r_indexAddr (hr1.mono S.below) rfl rfl ?_ ?_) ?_; (first | omega | (simp <;> omega)); (first | omega | (simp <;> omega)))) | (refine g_load ?_; first | (refine st_val rfl (r_loadElem (hr1.mono S.below) rfl ?_ ?_) ?_; (first | omega | (simp <;> omega)); (first | omega | (simp <;> omega))) | refine st_val rfl (r_loadVar (i := 7) S rfl rfl rfl) ?_) | (refine gq_move ?_; refine q_move rfl ?_) | (refine gq_assign ?_; refine q_assign rfl ?_) | (refine gq_b_sub ?_; (refine q_val rfl (fun w' hb => r_subN rfl rfl ?_ ?_) ?_; (first | omega | (simp <;> omega)); (first | omega | (simp <;> omega)))) | (refine gq_nilCheck ?_; refine q_val rfl (fun w' hb => r_nilCheck rfl) ?_) | (refine gq_fieldAddr ?_; refine q_val rfl (fun w' hb => r_fieldAddrL rfl) ?_) | (refine gq_load ?_; first | refine q_val rfl (fun w' hb => r_loadVar (i := 4) (S.grow hb) rfl rfl rfl) ?_ | refine q_val rfl (fun w' hb => r_loadVar (i := 7) (S.grow hb) rfl rfl rfl) ?_) | (refine g_alloc ?_; refine st_valE rfl (r_alloc S) ?_; rintro _ w ⟨b, rfl, -, S'⟩; replace S := S'; clear S') | (refine g_store ?_; first | (refine st_skipE rfl (r_storeVar (i := 0) S rfl rfl rfl rfl (of_decide_eq_true rfl) (of_decide_eq_true rfl)) ?_; intro w S'; replace S := S'; clear S') | (refine st_skipE rfl (r_storeVar (i := 1) S rfl rfl rfl rfl (of_decide_eq_true rfl) (of_decide_eq_true rfl)) ?_; intro w S'; replace S := S'; clear S') | (refine st_skipE rfl (r_storeVar (i := 2) S rfl rfl rfl rfl (of_decide_eq_true rfl) (of_decide_eq_true rfl)) ?_; intro w S'; replace S := S'; clear S') | (refine st_skipE rfl (r_storeVar (i := 3) S rfl rfl rfl rfl (of_decide_eq_true rfl) (of_decide_eq_true rfl)) ?_; intro w S'; replace S := S'; clear S') | (refine st_skipE rfl (r_storeVar (i := 4) S rfl rfl rfl rfl (of_decide_eq_true rfl) (of_decide_eq_true rfl)) ?_; intro w S'; replace S := S'; clear S') | (refine st_skipE rfl (r_storeVar (i := 5) S rfl rfl rfl rfl (of_decide_eq_true rfl) (of_decide_eq_true rfl)) ?_; intro w S'; replace S := S'; clear S') | (refine st_skipE rfl (r_storeVar (i := 6) S rfl rfl rfl rfl (of_decide_eq_true rfl) (of_decide_eq_true rfl)) ?_; intro w S'; replace S := S'; clear S') | (refine st_skipE rfl (r_storeVar (i := 7) S rfl rfl rfl rfl (of_decide_eq_true rfl) (of_decide_eq_true rfl)) ?_; intro w S'; replace S := S'; clear S')) | (refine q_val rfl (fun w' hb => r_lookup1D (k := (nth l i).ID) (eK := eI) (eV := eI) 0 rfl ((S.grow hb).mapAt (i := 2) rfl) rfl rfl) ?_) | (refine WP_cond rfl (fun h => ?_) (fun h => ?_) <;> (fail_if_success (have hh : true = true := h)) <;> (fail_if_success (have hh : false = false := h)) <;> (try simp only [decide_eq_true_eq, decide_eq_false_iff_not, Bool.not_eq_true', Bool.not_eq_false', Int.not_lt, Int.not_le] at h) <;> (try (exfalso; omega))))
          refine st_valE rfl (r_litF (D := fInt .i64) [z] (Value.int .i64) S (by rw [← hz']; rfl) rfl (fun _ => rfl) rfl (by decide) (by decide)) ?_
          rintro _ w ⟨bl, rfl, -, hcl, S'⟩; replace S := S'; clear S'
          refine st_valE rfl (r_append1 (D := fInt .i64) (i := 6) (b := bl) (x := z) S rfl rfl rfl (fl_one hcl) rfl (by decide) (of_decide_eq_true rfl) (by omega) (by omega)) ?_
          rintro vr' w ⟨-, S'⟩; replace S := S'; clear S' hcl
          repeat' (first | refine WP_region ?_ | refine wl_nil ?_ | refine then_normal ?_ | refine inB_normal ?_ | (refine g_move ?_; refine st_move rfl ?_) | (refine g_assign ?_; refine st_assign rfl ?_) | (refine g_b_add ?_; (refine st_val rfl (r_addN rfl rfl ?_ ?_) ?_; (first | omega | (simp <;> omega)); (first | omega | (simp <;> omega)))))
          refine ⟨⟨_, ?_, i + 1, vr', ⟨rfl, rfl, rfl, rfl, rfl, rfl, trivial⟩, by rw [hstep, hz]; exact S.keep [true, true, true, true, true, true, true], by omega, by omega, rfl⟩⟩
          omega
        · rw [if_neg h0] at hz'
          repeat' (first | refine WP_seq ?_ | refine WP_region ?_ | refine wl_nil ?_ | refine then_normal ?_ | refine WP_skip ?_ | refine WP_block ?_ | (refine g_move ?_; refine st_move rfl ?_) | (refine g_assign ?_; refine st_assign rfl ?_) | (refine g_b_lss ?_; refine st_val rfl (r_lss rfl rfl) ?_) | (refine g_b_leq ?_; refine st_val rfl (r_leq rfl rfl) ?_) | (refine g_fieldAddr ?_; refine st_val rfl (r_fieldAddrL rfl) ?_) | (refine g_indexAddr ?_; (refine st_val rfl (r_indexAddr (hr1.mono S.below) rfl rfl ?_ ?_) ?_; (first | omega | (simp <;> omega)); (first | omega | (simp <;> omega)))) | (refine g_load ?_; first | (refine st_val rfl (r_loadElem (hr1.mono S.below) rfl ?_ ?_) ?_; (first | omega | (simp <;> omega)); (first | omega | (simp <;> omega))) | refine st_val rfl (r_loadVar (i := 7) S rfl rfl rfl) ?_) | (refine g_alloc ?_; refine st_valE rfl (r_alloc S) ?_; rintro _ w ⟨b, rfl, -, S'⟩; replace S := S'; clear S') | (refine g_store ?_; first | (refine st_skipE rfl (r_storeVar (i := 0) S rfl rfl rfl rfl (of_decide_eq_true rfl) (of_decide_eq_true rfl)) ?_; intro w S'; replace S := S'; clear S') | (refine st_skipE rfl (r_storeVar (i := 1) S rfl rfl rfl rfl (of_decide_eq_true rfl) (of_decide_eq_true rfl)) ?_; intro w S'; replace S := S'; clear S') | (refine st_skipE rfl (r_storeVar (i := 2) S rfl rfl rfl rfl (of_decide_eq_true rfl) (of_decide_eq_true rfl)) ?_; intro w S'; replace S := S'; clear S') | (refine st_skipE rfl (r_storeVar (i := 3) S rfl rfl rfl rfl (of_decide_eq_true rfl) (of_decide_eq_true rfl)) ?_; intro w S'; replace S := S'; clear S') | (refine st_skipE rfl (r_storeVar (i := 4) S rfl rfl rfl rfl (of_decide_eq_true rfl) (of_decide_eq_true rfl)) ?_; intro w S'; replace S := S'; clear S') | (refine st_skipE rfl (r_storeVar (i := 5) S rfl rfl rfl rfl (of_decide_eq_true rfl) (of_decide_eq_true rfl)) ?_; intro w S'; replace S := S'; clear S') | (refine st_skipE rfl (r_storeVar (i := 6) S rfl rfl rfl rfl (of_decide_eq_true rfl) (of_decide_eq_true rfl)) ?_; intro w S'; replace S := S'; clear S') | (refine st_skipE rfl (r_storeVar (i := 7) S rfl rfl rfl rfl (of_decide_eq_true rfl) (of_decide_eq_true rfl)) ?_; intro w S'; replace S := S'; clear S')) | (refine WP_cond rfl (fun h => ?_) (fun h => ?_) <;> (fail_if_success (have hh : true = true := h)) <;> (fail_if_success (have hh : false = false := h)) <;> (try simp only [decide_eq_true_eq, decide_eq_false_iff_not, Bool.not_eq_true', Bool.not_eq_false', Int.not_lt, Int.not_le] at h) <;> (try (exfalso; omega))))
          refine st_valE rfl (r_litF (D := fInt .i64) [z] (Value.int .i64) S (by rw [← hz']; rfl) rfl (fun _ => rfl) rfl (by decide) (by decide)) ?_
          rintro _ w ⟨bl, rfl, -, hcl, S'⟩; replace S := S'; clear S'
          refine st_valE rfl (r_append1 (D := fInt .i64) (i := 6) (b := bl) (x := z) S rfl rfl rfl (fl_one hcl) rfl (by decide) (of_decide_eq_true rfl) (by omega) (by omega)) ?_
          rintro vr' w ⟨-, S'⟩; replace S := S'; clear S' hcl
          repeat' (first | refine WP_region ?_ | refine wl_nil ?_ | refine then_normal ?_ | refine inB_normal ?_ | (refine g_move ?_; refine st_move rfl ?_) | (refine g_assign ?_; refine st_assign rfl ?_) | (refine g_b_add ?_; (refine st_val rfl (r_addN rfl rfl ?_ ?_) ?_; (first | omega | (simp <;> omega)); (first | omega | (simp <;> omega)))))
          refine ⟨⟨_, ?_, i + 1, vr', ⟨rfl, rfl, rfl, rfl, rfl, rfl, trivial⟩, by rw [hstep, hz]; exact S.keep [true, true, true, true, true, true, true], by omega, by omega, rfl⟩⟩
          omega
      · have hit : i.toNat = l.length := by omega
        rw [hit, List.take_length] at S
        repeat' (first | refine WP_seq ?_ | refine WP_region ?_ | refine wl_nil ?_ | refine then_normal ?_ | refine then_exit ?_ | refine inB_here ?_ | refine WP_ret ?_ | refine WP_exit ?_ | (refine g_move ?_; refine st_move rfl ?_) | (refine g_assign ?_; refine st_assign rfl ?_) | (refine g_b_lss ?_; refine st_val rfl (r_lss rfl rfl) ?_) | (refine WP_cond rfl (fun h => ?_) (fun h => ?_) <;> (fail_if_success (have hh : true = true := h)) <;> (fail_if_success (have hh : false = false := h)) <;> (try simp only [decide_eq_true_eq, decide_eq_false_iff_not, Bool.not_eq_true', Bool.not_eq_false', Int.not_lt, Int.not_le] at h) <;> (try (exfalso; omega))))
        exact end2 rfl rfl rfl ⟨_, rfl, S.below, vr, rfl, S.row (i := 6) rfl⟩
end Go.Proofs.YteplelijhkmbkaaDoor
