import Derived.Test.YtcbidfedffegpaaP
namespace Go.Proofs.Ytcbidfedffegpaa
open Go Go.Gx Go.RowKit
set_option linter.unusedVariables false
set_option linter.unusedSimpArgs false

abbrev inN (n : Int) : Prop := -9223372036854775808 ≤ n ∧ n ≤ 9223372036854775807
theorem claims_is {n now e : Int} {v : Value} {l : List GAppearance} {cl : List GClaim} {w0 : World} (hn : inN n) (hr : Rd fGAppearance.ty w0 v l) (hl : l.length ≤ 100000) (h : claimsI n l now = cl) (he : errI n l now = e) :
    CallsR Try.prog 16 #[.int .i64 n, v, .int .i64 now] w0 fun v' w' => ∃ v1, v' = .tuple #[v1, .int .i64 e] ∧ NewRow fGClaim 39 w0 w' v1 cl := by
  rw [← h, ← he]; exact claims_run hn hr (by omega)
theorem claimsR_is {n now e : Int} {v : Value} {l : List GAppearance} {cl : List GClaim} {w0 : World} (hn : inN n) (hr : Rd fGAppearance.ty w0 v l) (hl : l.length ≤ 100000) (h : claimsI n l now = cl) (he : errI n l now = e) :
    CallsR Try.prog 17 #[.int .i64 n, v, .int .i64 now] w0 fun v' w' => ∃ v1, v' = .tuple #[v1, .int .i64 e] ∧ NewRow fGClaim 39 w0 w' v1 cl := by
  rw [← h, ← he]; exact claimsR_run hn hr (by omega)
theorem overdue_is {n now e : Int} {v : Value} {l : List GAppearance} {cl : List GClaim} {w0 : World} (hn : inN n) (hr : Rd fGAppearance.ty w0 v l) (hl : l.length ≤ 100000) (h : overI n l now = cl) (he : errI n l now = e) :
    CallsR Try.prog 18 #[.int .i64 n, v, .int .i64 now] w0 fun v' w' => ∃ v1, v' = .tuple #[v1, .int .i64 e] ∧ NewRow fGClaim 39 w0 w' v1 cl := by
  rw [← h, ← he]; exact overdue_run hn hr (by omega)
theorem overdueR_is {n now e : Int} {v : Value} {l : List GAppearance} {cl : List GClaim} {w0 : World} (hn : inN n) (hr : Rd fGAppearance.ty w0 v l) (hl : l.length ≤ 100000) (h : overI n l now = cl) (he : errI n l now = e) :
    CallsR Try.prog 19 #[.int .i64 n, v, .int .i64 now] w0 fun v' w' => ∃ v1, v' = .tuple #[v1, .int .i64 e] ∧ NewRow fGClaim 39 w0 w' v1 cl := by
  rw [← h, ← he]; exact overdueR_run hn hr (by omega)
theorem totals_is {n now e : Int} {v : Value} {l : List GAppearance} {cl : List Int} {w0 : World} (hn : inN n) (hr : Rd fGAppearance.ty w0 v l) (hl : l.length ≤ 100000) (h : totI n l now = cl) (he : errI n l now = e) :
    CallsR Try.prog 23 #[.int .i64 n, v, .int .i64 now] w0 fun v' w' => ∃ v1, v' = .tuple #[v1, .int .i64 e] ∧ NewRow (fInt .i64) 3 w0 w' v1 cl := by
  rw [← h, ← he]; exact totals_run hn hr (by omega)
theorem totalsR_is {n now e : Int} {v : Value} {l : List GAppearance} {cl : List Int} {w0 : World} (hn : inN n) (hr : Rd fGAppearance.ty w0 v l) (hl : l.length ≤ 100000) (h : totI n l now = cl) (he : errI n l now = e) :
    CallsR Try.prog 24 #[.int .i64 n, v, .int .i64 now] w0 fun v' w' => ∃ v1, v' = .tuple #[v1, .int .i64 e] ∧ NewRow (fInt .i64) 3 w0 w' v1 cl := by
  rw [← h, ← he]; exact totalsR_run hn hr (by omega)
theorem owed_is {n now e : Int} {v : Value} {l : List GAppearance} {cl : List Int} {w0 : World} (hn : inN n) (hr : Rd fGAppearance.ty w0 v l) (hl : l.length ≤ 100000) (h : oweI n l now = cl) (he : errI n l now = e) :
    CallsR Try.prog 21 #[.int .i64 n, v, .int .i64 now] w0 fun v' w' => ∃ v1, v' = .tuple #[v1, .int .i64 e] ∧ NewRow (fInt .i64) 3 w0 w' v1 cl := by
  rw [← h, ← he]; exact owed_run hn hr (by omega)
theorem owedR_is {n now e : Int} {v : Value} {l : List GAppearance} {cl : List Int} {w0 : World} (hn : inN n) (hr : Rd fGAppearance.ty w0 v l) (hl : l.length ≤ 100000) (h : oweI n l now = cl) (he : errI n l now = e) :
    CallsR Try.prog 22 #[.int .i64 n, v, .int .i64 now] w0 fun v' w' => ∃ v1, v' = .tuple #[v1, .int .i64 e] ∧ NewRow (fInt .i64) 3 w0 w' v1 cl := by
  rw [← h, ← he]; exact owedR_run hn hr (by omega)
theorem next_is {n now : Int} {v : Value} {l : List GAppearance} {x : GClaim} {b : Bool} {w0 : World} (hn : inN n) (hr : Rd fGAppearance.ty w0 v l) (hl : l.length ≤ 100000) (h1 : (firstI n l now).1 = x) (h2 : (firstI n l now).2 = b) :
    CallsV Try.prog 25 #[.int .i64 n, v, .int .i64 now] w0 (.tuple #[.agg x.enc.toArray, .bool b]) := by
  rw [← h1, ← h2]; exact next_spec hn hr (by omega)
theorem nextR_is {n now : Int} {v : Value} {l : List GAppearance} {x : GClaim} {b : Bool} {w0 : World} (hn : inN n) (hr : Rd fGAppearance.ty w0 v l) (hl : l.length ≤ 100000) (h1 : (firstI n l now).1 = x) (h2 : (firstI n l now).2 = b) :
    CallsV Try.prog 26 #[.int .i64 n, v, .int .i64 now] w0 (.tuple #[.agg x.enc.toArray, .bool b]) := by
  rw [← h1, ← h2]; exact nextR_spec hn hr (by omega)
theorem valid_is {n : Int} {v : Value} {l : List GAppearance} {b : Bool} {w0 : World} (hn : inN n) (hr : Rd fGAppearance.ty w0 v l) (hl : l.length ≤ 100000) (h : validA n l = b) :
    CallsV Try.prog 14 #[.int .i64 n, v] w0 (.bool b) := by
  rw [← h]; exact valid_spec hn hr (by omega)
theorem validR_is {n : Int} {v : Value} {l : List GAppearance} {b : Bool} {w0 : World} (hn : inN n) (hr : Rd fGAppearance.ty w0 v l) (hl : l.length ≤ 100000) (h : validA n l = b) :
    CallsV Try.prog 15 #[.int .i64 n, v] w0 (.bool b) := by
  rw [← h]; exact validR_spec hn hr (by omega)
abbrev lS : List GAppearance := [⟨0, 100, 10, 2⟩, ⟨1, 200, 15, 2⟩, ⟨0, 300, 4, 1⟩]
abbrev fS : GClaim := ⟨2, 0, 20, 604900⟩
theorem s1 : claimsI 3 lS 100 = [⟨1, 0, 20, 604900⟩, fS] := by decide +kernel
theorem s1e : errI 3 lS 100 = 0 := by decide +kernel
theorem s2 : claimsI 3 lS 299 = [fS, ⟨0, 1, 10, 605000⟩, ⟨2, 1, 10, 605000⟩] := by decide +kernel
theorem s2e : errI 3 lS 299 = 0 := by decide +kernel
theorem s3 : claimsI 3 lS 300 = [fS, ⟨0, 1, 6, 605000⟩, ⟨2, 1, 10, 605000⟩] := by decide +kernel
theorem s3e : errI 3 lS 300 = 0 := by decide +kernel
theorem s4 : oweI 3 lS 1000 = [6, 0, 30] := by decide +kernel
theorem s4e : errI 3 lS 1000 = 0 := by decide +kernel
theorem s5 : totI 3 lS 1000 = [24, 30, 0] := by decide +kernel
theorem s6 : overI 3 lS 604901 = [fS] := by decide +kernel
theorem s6e : errI 3 lS 604901 = 0 := by decide +kernel
theorem s7 : claimsI 1 [] 0 = [] := by decide +kernel
theorem s7e : errI 1 [] 0 = 130 := by decide +kernel
theorem s8a : (firstI 3 lS 300).1 = fS := by decide +kernel
theorem s8b : (firstI 3 lS 300).2 = true := by decide +kernel
theorem s9 : validA 3 lS = true := by decide +kernel
theorem s10 : validA 1 [] = false := by decide +kernel
theorem wl_forget {P : Program} {n : Nat} {ops : Array Oper} {Q : Post} {σ : Nat → Value} {w : World} {rest : List Oper} (L : List (Nat × Value)) (h : Has σ L) (k : ∀ σ', Has σ' L → wl P n ops Q rest σ' w) : wl P n ops Q rest σ w := k σ h
set_option maxRecDepth 20000 in
set_option maxHeartbeats 32000000 in
theorem sane_spec {w0 : World} : CallsV Try.prog 10 #[] w0 (.bool true) := by
  have S := St.start w0
  refine CallsV.mk ?_
  refine calls_enter Try.func10 rfl (by intro _ h; first | exact nomatch h.1 | (obtain ⟨_, h, _⟩ := h; exact nomatch h)) Try.ntmps10 rfl ?_
  repeat' (first | refine WP_seq ?_ | refine WP_region ?_ | refine wl_nil ?_ | refine then_normal ?_ | (refine g_assign ?_; refine st_assign rfl ?_) | (refine g_build ?_; refine st_val rfl (bd49_0_1_2_3 rfl rfl rfl rfl) ?_))
  refine st_valE rfl (r_litF (D := fGAppearance) lS (fun x => .agg x.enc.toArray) S rfl rfl (fun _ => rfl) rfl (by decide) (by decide)) ?_; rintro _ w ⟨b0, rfl, -, -, S'⟩; replace S := S'; clear S'
  repeat' (first | refine WP_seq ?_ | refine WP_region ?_ | refine wl_nil ?_ | refine then_normal ?_ | (refine g_move ?_; refine st_move rfl ?_) | (refine g_assign ?_; refine st_assign rfl ?_))
  refine st_callR rfl (r_call3 rfl rfl rfl rfl) (claims_is (by decide) (S.rdRow (D := fGAppearance) (i := 0) rfl) (by decide) s1 s1e) ?_; rintro _ w hb ⟨va, rfl, hrow⟩; replace S := S.new hb hrow; clear hb hrow
  repeat' (first | refine WP_seq ?_ | refine WP_region ?_ | refine wl_nil ?_ | refine then_normal ?_ | (refine g_move ?_; refine st_move rfl ?_) | (refine g_assign ?_; refine st_assign rfl ?_) | (refine g_extract ?_; refine st_val rfl (r_extract rfl rfl) ?_))
  refine st_callR rfl (r_call3 rfl rfl rfl rfl) (claims_is (by decide) (S.rdRow (D := fGAppearance) (i := 0) rfl) (by decide) s2 s2e) ?_; rintro _ w hb ⟨vb, rfl, hrow⟩; replace S := S.new hb hrow; clear hb hrow
  repeat' (first | refine WP_seq ?_ | refine WP_region ?_ | refine wl_nil ?_ | refine then_normal ?_ | (refine g_move ?_; refine st_move rfl ?_) | (refine g_assign ?_; refine st_assign rfl ?_) | (refine g_extract ?_; refine st_val rfl (r_extract rfl rfl) ?_))
  refine st_callR rfl (r_call3 rfl rfl rfl rfl) (claims_is (by decide) (S.rdRow (D := fGAppearance) (i := 0) rfl) (by decide) s3 s3e) ?_; rintro _ w hb ⟨vc, rfl, hrow⟩; replace S := S.new hb hrow; clear hb hrow
  repeat' (first | refine WP_seq ?_ | refine WP_region ?_ | refine wl_nil ?_ | refine then_normal ?_ | (refine g_move ?_; refine st_move rfl ?_) | (refine g_assign ?_; refine st_assign rfl ?_) | (refine g_extract ?_; refine st_val rfl (r_extract rfl rfl) ?_))
  refine st_callR rfl (r_call3 rfl rfl rfl rfl) (owed_is (by decide) (S.rdRow (D := fGAppearance) (i := 0) rfl) (by decide) s4 s4e) ?_; rintro _ w hb ⟨vo, rfl, hrow⟩; replace S := S.new hb hrow; clear hb hrow
  repeat' (first | refine WP_seq ?_ | refine WP_region ?_ | refine wl_nil ?_ | refine then_normal ?_ | (refine g_move ?_; refine st_move rfl ?_) | (refine g_assign ?_; refine st_assign rfl ?_) | (refine g_extract ?_; refine st_val rfl (r_extract rfl rfl) ?_))
  refine st_callR rfl (r_call3 rfl rfl rfl rfl) (totals_is (by decide) (S.rdRow (D := fGAppearance) (i := 0) rfl) (by decide) s5 s4e) ?_; rintro _ w hb ⟨vt, rfl, hrow⟩; replace S := S.new hb hrow; clear hb hrow
  repeat' (first | refine WP_seq ?_ | refine WP_region ?_ | refine wl_nil ?_ | refine then_normal ?_ | (refine g_move ?_; refine st_move rfl ?_) | (refine g_assign ?_; refine st_assign rfl ?_) | (refine g_extract ?_; refine st_val rfl (r_extract rfl rfl) ?_))
  refine st_callR rfl (r_call3 rfl rfl rfl rfl) (overdue_is (by decide) (S.rdRow (D := fGAppearance) (i := 0) rfl) (by decide) s6 s6e) ?_; rintro _ w hb ⟨vl, rfl, hrow⟩; replace S := S.new hb hrow; clear hb hrow
  repeat' (first | refine WP_seq ?_ | refine WP_region ?_ | refine wl_nil ?_ | refine then_normal ?_ | (refine g_move ?_; refine st_move rfl ?_) | (refine g_assign ?_; refine st_assign rfl ?_) | (refine g_extract ?_; refine st_val rfl (r_extract rfl rfl) ?_))
  refine st_callR rfl (r_call3 rfl rfl rfl rfl) (claims_is (by decide) (Rd.nil fGAppearance.ty _) (by decide) s7 s7e) ?_; rintro _ w hb ⟨vk, rfl, hrow⟩; replace S := S.new hb hrow; clear hb hrow
  repeat' (first | refine WP_seq ?_ | refine WP_region ?_ | refine wl_nil ?_ | refine then_normal ?_ | (refine g_move ?_; refine st_move rfl ?_) | (refine g_assign ?_; refine st_assign rfl ?_) | (refine g_extract ?_; refine st_val rfl (r_extract rfl rfl) ?_) | (refine g_callV ?_; (refine st_callV rfl (r_call3 rfl rfl rfl rfl) (next_is (by decide) (S.rdRow (D := fGAppearance) (i := 0) rfl) (by decide) s8a s8b) ?_; intro w hb; replace S := S.grow hb; clear hb)))
  refine st_valE rfl (r_alloc S) ?_; rintro _ w ⟨b1, rfl, -, S'⟩; replace S := S'; clear S'
  skip
  refine st_skipE rfl (r_storeVar (i := 8) S rfl rfl rfl rfl (of_decide_eq_true rfl) (of_decide_eq_true rfl)) ?_; intro w S'; replace S := S'; clear S'
  repeat' (first | refine WP_seq ?_ | refine WP_region ?_ | refine wl_nil ?_ | refine then_normal ?_ | (refine g_assign ?_; refine st_assign rfl ?_) | (refine g_build ?_; refine st_val rfl (bd39_0_1_2_3 rfl rfl rfl rfl) ?_))
  refine st_valE rfl (r_alloc S) ?_; rintro _ w ⟨b2, rfl, -, S'⟩; replace S := S'; clear S'
  skip
  refine st_skipE rfl (r_storeVar (i := 9) S rfl rfl rfl rfl (of_decide_eq_true rfl) (of_decide_eq_true rfl)) ?_; intro w S'; replace S := S'; clear S'
  repeat' (first | refine WP_seq ?_ | refine WP_region ?_ | refine wl_nil ?_ | refine then_normal ?_ | (refine g_move ?_; refine st_move rfl ?_) | (refine g_assign ?_; refine st_assign rfl ?_) | (refine g_pick ?_; refine st_pickT rfl rfl ?_) | (refine g_b_eql ?_; refine st_val rfl (r_eql rfl rfl) ?_) | (refine g_build ?_; refine st_val rfl (bd39_0_1_2_3 rfl rfl rfl rfl) ?_) | (refine st_val rfl (r_loadVarA (i := 9) S rfl rfl rfl rfl) ?_))
  refine wl_forget [(1, .slice (some ⟨b0, 0, none⟩) 3 3), (4, vb), (6, vc), (8, vo), (10, vt), (12, vl), (16, .pointer (some ⟨b1, 0, none⟩)), (17, .bool true), (18, .pointer (some ⟨b2, 0, none⟩)), (19, .bool true), (91, va), (92, .agg (GClaim.enc ⟨1, 0, 20, 604900⟩).toArray), (93, .agg (GClaim.enc ⟨2, 0, 20, 604900⟩).toArray)] ⟨rfl, rfl, rfl, rfl, rfl, rfl, rfl, rfl, rfl, rfl, rfl, rfl, rfl, trivial⟩ ?_
  intro σ hs
  refine wl_has hs ?_
  replace S : St w0 _ [rowOb fGAppearance 49 (.slice (some ⟨b0, 0, none⟩) 3 3) lS, rowOb fGClaim 39 va [⟨1, 0, 20, 604900⟩, fS], rowOb fGClaim 39 vb [fS, ⟨0, 1, 10, 605000⟩, ⟨2, 1, 10, 605000⟩], rowOb fGClaim 39 vc [fS, ⟨0, 1, 6, 605000⟩, ⟨2, 1, 10, 605000⟩], rowOb (fInt .i64) 3 vo [6, 0, 30], rowOb (fInt .i64) 3 vt [24, 30, 0], rowOb fGClaim 39 vl [fS], rowOb fGClaim 39 vk [], .var b1 39 fS.enc, .var b2 39 fS.enc] := S.sub (by first | exact List.Sublist.refl _ | exact List.sublist_append_left _ _)
  refine st_valE rfl (r_litF (D := fGClaim) [⟨1, 0, 20, 604900⟩, fS] (fun x => .agg x.enc.toArray) S rfl rfl (fun _ => rfl) rfl (by decide) (by decide)) ?_; rintro _ w ⟨bl, rfl, -, -, S'⟩; replace S := S'; clear S'
  repeat' (first | (refine g_move ?_; refine st_move rfl ?_) | (refine g_build ?_; refine st_val rfl (bd39_0_1_2_3 rfl rfl rfl rfl) ?_) | (refine g_callV ?_; (refine st_callV rfl (r_call2 rfl rfl rfl) (same_is (S.rdRow (D := fGClaim) (i := 1) rfl) (S.rdRow (D := fGClaim) (i := 10) rfl) (by decide) (by decide) (decide_eq_true rfl)) ?_; intro w hb; replace S := S.grow hb; clear hb)) | (refine st_val rfl (r_loadVarA (i := 9) S rfl rfl rfl rfl) ?_))
  refine wl_forget [(1, .slice (some ⟨b0, 0, none⟩) 3 3), (4, vb), (6, vc), (8, vo), (10, vt), (12, vl), (16, .pointer (some ⟨b1, 0, none⟩)), (17, .bool true), (18, .pointer (some ⟨b2, 0, none⟩)), (19, .bool true), (96, .bool true), (97, vb), (98, .agg (GClaim.enc ⟨2, 0, 20, 604900⟩).toArray), (99, .agg (GClaim.enc ⟨0, 1, 10, 605000⟩).toArray), (100, .agg (GClaim.enc ⟨2, 1, 10, 605000⟩).toArray)] ⟨rfl, rfl, rfl, rfl, rfl, rfl, rfl, rfl, rfl, rfl, rfl, rfl, rfl, rfl, rfl, trivial⟩ ?_
  intro σ hs
  refine wl_has hs ?_
  replace S : St w0 _ [rowOb fGAppearance 49 (.slice (some ⟨b0, 0, none⟩) 3 3) lS, rowOb fGClaim 39 va [⟨1, 0, 20, 604900⟩, fS], rowOb fGClaim 39 vb [fS, ⟨0, 1, 10, 605000⟩, ⟨2, 1, 10, 605000⟩], rowOb fGClaim 39 vc [fS, ⟨0, 1, 6, 605000⟩, ⟨2, 1, 10, 605000⟩], rowOb (fInt .i64) 3 vo [6, 0, 30], rowOb (fInt .i64) 3 vt [24, 30, 0], rowOb fGClaim 39 vl [fS], rowOb fGClaim 39 vk [], .var b1 39 fS.enc, .var b2 39 fS.enc] := S.sub (by first | exact List.Sublist.refl _ | exact List.sublist_append_left _ _)
  refine st_valE rfl (r_litF (D := fGClaim) [fS, ⟨0, 1, 10, 605000⟩, ⟨2, 1, 10, 605000⟩] (fun x => .agg x.enc.toArray) S rfl rfl (fun _ => rfl) rfl (by decide) (by decide)) ?_; rintro _ w ⟨bl, rfl, -, -, S'⟩; replace S := S'; clear S'
  repeat' (first | (refine g_move ?_; refine st_move rfl ?_) | (refine g_pick ?_; refine st_pickT rfl rfl ?_) | (refine g_build ?_; refine st_val rfl (bd39_0_1_2_3 rfl rfl rfl rfl) ?_) | (refine g_callV ?_; (refine st_callV rfl (r_call2 rfl rfl rfl) (same_is (S.rdRow (D := fGClaim) (i := 2) rfl) (S.rdRow (D := fGClaim) (i := 10) rfl) (by decide) (by decide) (decide_eq_true rfl)) ?_; intro w hb; replace S := S.grow hb; clear hb)) | (refine st_val rfl (r_loadVarA (i := 9) S rfl rfl rfl rfl) ?_))
  refine wl_forget [(1, .slice (some ⟨b0, 0, none⟩) 3 3), (4, vb), (6, vc), (8, vo), (10, vt), (12, vl), (16, .pointer (some ⟨b1, 0, none⟩)), (17, .bool true), (18, .pointer (some ⟨b2, 0, none⟩)), (19, .bool true), (104, .bool true), (105, vc), (106, .agg (GClaim.enc ⟨2, 0, 20, 604900⟩).toArray), (107, .agg (GClaim.enc ⟨0, 1, 6, 605000⟩).toArray), (108, .agg (GClaim.enc ⟨2, 1, 10, 605000⟩).toArray)] ⟨rfl, rfl, rfl, rfl, rfl, rfl, rfl, rfl, rfl, rfl, rfl, rfl, rfl, rfl, rfl, trivial⟩ ?_
  intro σ hs
  refine wl_has hs ?_
  replace S : St w0 _ [rowOb fGAppearance 49 (.slice (some ⟨b0, 0, none⟩) 3 3) lS, rowOb fGClaim 39 va [⟨1, 0, 20, 604900⟩, fS], rowOb fGClaim 39 vb [fS, ⟨0, 1, 10, 605000⟩, ⟨2, 1, 10, 605000⟩], rowOb fGClaim 39 vc [fS, ⟨0, 1, 6, 605000⟩, ⟨2, 1, 10, 605000⟩], rowOb (fInt .i64) 3 vo [6, 0, 30], rowOb (fInt .i64) 3 vt [24, 30, 0], rowOb fGClaim 39 vl [fS], rowOb fGClaim 39 vk [], .var b1 39 fS.enc, .var b2 39 fS.enc] := S.sub (by first | exact List.Sublist.refl _ | exact List.sublist_append_left _ _)
  refine st_valE rfl (r_litF (D := fGClaim) [fS, ⟨0, 1, 6, 605000⟩, ⟨2, 1, 10, 605000⟩] (fun x => .agg x.enc.toArray) S rfl rfl (fun _ => rfl) rfl (by decide) (by decide)) ?_; rintro _ w ⟨bl, rfl, -, -, S'⟩; replace S := S'; clear S'
  repeat' (first | refine WP_seq ?_ | refine WP_region ?_ | refine wl_nil ?_ | refine then_normal ?_ | (refine g_move ?_; refine st_move rfl ?_) | (refine g_assign ?_; refine st_assign rfl ?_) | (refine g_pick ?_; refine st_pickT rfl rfl ?_) | (refine g_callV ?_; (refine st_callV rfl (r_call2 rfl rfl rfl) (same_is (S.rdRow (D := fGClaim) (i := 3) rfl) (S.rdRow (D := fGClaim) (i := 10) rfl) (by decide) (by decide) (decide_eq_true rfl)) ?_; intro w hb; replace S := S.grow hb; clear hb)))
  refine wl_forget [(1, .slice (some ⟨b0, 0, none⟩) 3 3), (8, vo), (10, vt), (12, vl), (16, .pointer (some ⟨b1, 0, none⟩)), (17, .bool true), (18, .pointer (some ⟨b2, 0, none⟩)), (116, .bool true), (117, vo)] ⟨rfl, rfl, rfl, rfl, rfl, rfl, rfl, rfl, rfl, trivial⟩ ?_
  intro σ hs
  refine wl_has hs ?_
  replace S : St w0 _ [rowOb fGAppearance 49 (.slice (some ⟨b0, 0, none⟩) 3 3) lS, rowOb fGClaim 39 va [⟨1, 0, 20, 604900⟩, fS], rowOb fGClaim 39 vb [fS, ⟨0, 1, 10, 605000⟩, ⟨2, 1, 10, 605000⟩], rowOb fGClaim 39 vc [fS, ⟨0, 1, 6, 605000⟩, ⟨2, 1, 10, 605000⟩], rowOb (fInt .i64) 3 vo [6, 0, 30], rowOb (fInt .i64) 3 vt [24, 30, 0], rowOb fGClaim 39 vl [fS], rowOb fGClaim 39 vk [], .var b1 39 fS.enc, .var b2 39 fS.enc] := S.sub (by first | exact List.Sublist.refl _ | exact List.sublist_append_left _ _)
  refine st_valE rfl (r_litF (D := (fInt .i64)) [6, 0, 30] (fun x => .int .i64 x) S rfl rfl (fun _ => rfl) rfl (by decide) (by decide)) ?_; rintro _ w ⟨bl, rfl, -, -, S'⟩; replace S := S'; clear S'
  repeat' (first | (refine g_move ?_; refine st_move rfl ?_) | (refine g_pick ?_; refine st_pickT rfl rfl ?_) | (refine g_callV ?_; (refine st_callV rfl (r_call2 rfl rfl rfl) (ints_is (S.rdRow (D := fInt .i64) (i := 4) rfl) (S.rdRow (D := fInt .i64) (i := 10) rfl) (by decide) (by decide) (decide_eq_true rfl)) ?_; intro w hb; replace S := S.grow hb; clear hb)))
  refine wl_forget [(1, .slice (some ⟨b0, 0, none⟩) 3 3), (8, vo), (10, vt), (12, vl), (16, .pointer (some ⟨b1, 0, none⟩)), (17, .bool true), (18, .pointer (some ⟨b2, 0, none⟩)), (121, .bool true), (122, vt)] ⟨rfl, rfl, rfl, rfl, rfl, rfl, rfl, rfl, rfl, trivial⟩ ?_
  intro σ hs
  refine wl_has hs ?_
  replace S : St w0 _ [rowOb fGAppearance 49 (.slice (some ⟨b0, 0, none⟩) 3 3) lS, rowOb fGClaim 39 va [⟨1, 0, 20, 604900⟩, fS], rowOb fGClaim 39 vb [fS, ⟨0, 1, 10, 605000⟩, ⟨2, 1, 10, 605000⟩], rowOb fGClaim 39 vc [fS, ⟨0, 1, 6, 605000⟩, ⟨2, 1, 10, 605000⟩], rowOb (fInt .i64) 3 vo [6, 0, 30], rowOb (fInt .i64) 3 vt [24, 30, 0], rowOb fGClaim 39 vl [fS], rowOb fGClaim 39 vk [], .var b1 39 fS.enc, .var b2 39 fS.enc] := S.sub (by first | exact List.Sublist.refl _ | exact List.sublist_append_left _ _)
  refine st_valE rfl (r_litF (D := (fInt .i64)) [24, 30, 0] (fun x => .int .i64 x) S rfl rfl (fun _ => rfl) rfl (by decide) (by decide)) ?_; rintro _ w ⟨bl, rfl, -, -, S'⟩; replace S := S'; clear S'
  repeat' (first | (refine g_move ?_; refine st_move rfl ?_) | (refine g_pick ?_; refine st_pickT rfl rfl ?_) | (refine g_callV ?_; (refine st_callV rfl (r_call2 rfl rfl rfl) (ints_is (S.rdRow (D := fInt .i64) (i := 5) rfl) (S.rdRow (D := fInt .i64) (i := 10) rfl) (by decide) (by decide) (decide_eq_true rfl)) ?_; intro w hb; replace S := S.grow hb; clear hb)) | (refine st_val rfl (r_loadVarA (i := 9) S rfl rfl rfl rfl) ?_))
  refine wl_forget [(1, .slice (some ⟨b0, 0, none⟩) 3 3), (16, .pointer (some ⟨b1, 0, none⟩)), (17, .bool true), (18, .pointer (some ⟨b2, 0, none⟩)), (126, .bool true), (127, vl), (128, .agg (GClaim.enc ⟨2, 0, 20, 604900⟩).toArray)] ⟨rfl, rfl, rfl, rfl, rfl, rfl, rfl, trivial⟩ ?_
  intro σ hs
  refine wl_has hs ?_
  replace S : St w0 _ [rowOb fGAppearance 49 (.slice (some ⟨b0, 0, none⟩) 3 3) lS, rowOb fGClaim 39 va [⟨1, 0, 20, 604900⟩, fS], rowOb fGClaim 39 vb [fS, ⟨0, 1, 10, 605000⟩, ⟨2, 1, 10, 605000⟩], rowOb fGClaim 39 vc [fS, ⟨0, 1, 6, 605000⟩, ⟨2, 1, 10, 605000⟩], rowOb (fInt .i64) 3 vo [6, 0, 30], rowOb (fInt .i64) 3 vt [24, 30, 0], rowOb fGClaim 39 vl [fS], rowOb fGClaim 39 vk [], .var b1 39 fS.enc, .var b2 39 fS.enc] := S.sub (by first | exact List.Sublist.refl _ | exact List.sublist_append_left _ _)
  refine st_valE rfl (r_litF (D := fGClaim) [fS] (fun x => .agg x.enc.toArray) S rfl rfl (fun _ => rfl) rfl (by decide) (by decide)) ?_; rintro _ w ⟨bl, rfl, -, -, S'⟩; replace S := S'; clear S'
  repeat' (first | refine wl_nil ?_ | refine then_normal ?_ | refine WP_ret ?_ | (refine g_move ?_; refine st_move rfl ?_) | (refine g_assign ?_; refine st_assign rfl ?_) | (refine g_pick ?_; refine st_pickT rfl rfl ?_) | (refine g_b_eql ?_; refine st_val rfl (eql39 rfl rfl) ?_) | (refine g_un ?_; refine st_val rfl (r_not rfl) ?_) | (refine g_callV ?_; first | (refine st_callV rfl (r_call2 rfl rfl rfl) (same_is (S.rdRow (D := fGClaim) (i := 6) rfl) (S.rdRow (D := fGClaim) (i := 10) rfl) (by decide) (by decide) (decide_eq_true rfl)) ?_; intro w hb; replace S := S.grow hb; clear hb) | (refine st_callV rfl (r_call2 rfl rfl rfl) (valid_is (by decide) (S.rdRow (D := fGAppearance) (i := 0) rfl) (by decide) s9) ?_; intro w hb; replace S := S.grow hb; clear hb) | (refine st_callV rfl (r_call2 rfl rfl rfl) (valid_is (by decide) (Rd.nil fGAppearance.ty _) (by decide) s10) ?_; intro w hb; replace S := S.grow hb; clear hb)) | (refine st_val rfl (r_loadVarA (i := 8) S rfl rfl rfl rfl) ?_) | (refine st_val rfl (r_loadVarA (i := 9) S rfl rfl rfl rfl) ?_))
  exact end1 rfl rfl ⟨rfl, S.below⟩
end Go.Proofs.Ytcbidfedffegpaa
