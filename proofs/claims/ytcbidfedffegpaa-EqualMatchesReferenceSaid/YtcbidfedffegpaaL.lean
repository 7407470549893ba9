import Derived.Test.YtcbidfedffegpaaK
namespace Go.Proofs.Ytcbidfedffegpaa
open Go Go.Gx Go.RowKit
set_option linter.unusedVariables false
set_option linter.unusedSimpArgs false
set_option maxHeartbeats 2000000 in
theorem owed_run {n now : Int} {v : Value} {l : List GAppearance} {w0 : World} (hn : -9223372036854775808 ≤ n ∧ n ≤ 9223372036854775807) (hr : Rd fGAppearance.ty w0 v l) (hl : l.length ≤ 1000000000) :
    CallsR Try.prog 21 #[.int .i64 n, v, .int .i64 now] w0 (oweG n l now w0) := by
  have S := St.start w0
  refine CallsR.mk ?_
  refine calls_enter Try.func21 rfl (by intro _ h; first | exact nomatch h.1 | (obtain ⟨_, h, _⟩ := h; exact nomatch h)) Try.ntmps21 rfl ?_
  repeat' (first | refine WP_seq ?_ | refine WP_region ?_ | refine wl_nil ?_ | refine then_normal ?_ | (refine g_move ?_; refine st_move rfl ?_) | (refine g_assign ?_; refine st_assign rfl ?_))
  refine st_callR rfl (r_call3 rfl rfl rfl rfl) (open_run hn (hr.mono S.below) hl) ?_
  rintro v w hb ho
  rcases ho with ⟨hok, rfl⟩ | ⟨hok, ba, vs, obs, rfl, S', hq⟩
  · replace S := S.grow hb
    repeat' (first | refine WP_seq ?_ | refine WP_region ?_ | refine wl_nil ?_ | refine then_normal ?_ | refine then_ret ?_ | refine WP_ret ?_ | refine WP_condT rfl ?_ | (refine g_move ?_; refine st_move rfl ?_) | (refine g_assign ?_; refine st_assign rfl ?_) | (refine g_b_neq ?_; refine st_val rfl (r_neq rfl rfl) ?_) | (refine g_extract ?_; refine st_val rfl (r_extract rfl rfl) ?_))
    have he : errI n l now = 130 := by unfold errI; rw [if_neg (by simp [hok])]
    have hcl : oweI n l now = [] := by unfold oweI; rw [if_neg (by simp [hok])]
    refine end2 rfl rfl rfl ⟨_, rfl, S.below, .slice none 0 0, ?_, ?_⟩
    · rw [he]; rfl
    · rw [hcl]; exact NewRow.nil (fInt .i64) 3 _ _
  replace S : St w0 w (.var ba 65 (accC (hadAt l now l.length) n vs) :: obs) := S'
  clear S' hb
  have hvd : validA n l = true := by unfold okA at hok; simp only [Bool.and_eq_true] at hok; exact hok.1
  have hva := valid_at hvd
  have he : errI n l now = 0 := by unfold errI; rw [if_pos hok]
  have hqok := fun k => qAt_ok (now := now) hvd l.length (Nat.le_refl _) k
  have hcl : oweI n l now = (List.range n.toNat).map fun k => sumR (qAt n l now l.length k) := by
    unfold oweI; rw [if_pos hok]
    unfold sumsI claimsI; rw [if_pos hok]
    refine List.map_congr_left fun k _ => ?_
    rw [q_by hvd l.length (Nat.le_refl _) k]
  have hnn : (n.toNat : Int) = n := by omega
  generalize qAt n l now l.length = qs at hq hqok hcl
  have hhl := hadAt_len (l := l) (now := now) l.length
  generalize hadAt l now l.length = had at S hhl
  repeat' (first | refine WP_seq ?_ | refine WP_region ?_ | refine wl_nil ?_ | refine then_normal ?_ | refine WP_skip ?_ | refine WP_condF rfl ?_ | (refine g_move ?_; refine st_move rfl ?_) | (refine g_assign ?_; refine st_assign rfl ?_) | (refine g_b_neq ?_; refine st_val rfl (r_neq rfl rfl) ?_) | (refine g_extract ?_; refine st_val rfl (r_extract rfl rfl) ?_))
  refine st_valE rfl (r_makeF (D := fInt .i64) (m := n.toNat) 0 S (by show Value.int .i64 n = .int .i64 (n.toNat : Int); rw [hnn]) (by show Value.int .i64 n = .int .i64 (n.toNat : Int); rw [hnn]) rfl (by decide) (by omega) (by omega)) ?_
  rintro _ w ⟨bo, rfl, -, S'⟩
  replace S := S'.front
  clear S'
  rw [← partS_zero (qs := qs)] at S
  repeat' (first | refine WP_seq ?_ | refine WP_region ?_ | refine wl_nil ?_ | refine then_normal ?_ | refine WP_block ?_ | (refine g_move ?_; refine st_move rfl ?_) | (refine g_assign ?_; refine st_assign rfl ?_) | (refine g_c_len ?_; refine st_val rfl (r_lenSlice rfl) ?_))
  refine WP_loop (fun k σ w1 => ∃ i : Nat, Has σ [(8, .pointer (some ⟨ba, 0, none⟩)), (10, .slice (some ⟨bo, 0, none⟩) n.toNat n.toNat), (27, .int .i64 (n.toNat : Int)), (28, .int .i64 (i : Int))] ∧ St w0 w1 (rowOb (fInt .i64) 3 (.slice (some ⟨bo, 0, none⟩) n.toNat n.toNat) (partS n.toNat qs i 0) :: .var ba 65 (accC had n vs) :: obs) ∧ i ≤ n.toNat ∧ k = n.toNat - i) n.toNat ⟨0, ⟨rfl, rfl, rfl, rfl, trivial⟩, S, by omega, by omega⟩ ?_
  clear S
  rintro k σ w1 ⟨i, hs', S, hi1, rfl⟩
  refine WP_has hs' ?_
  by_cases hi : i < n.toNat
  · obtain ⟨o, v, ho, hv, hqu⟩ := hq.get (k := i) (by omega)
    obtain ⟨A, c, rfl⟩ := hqu.len
    have hqi := hqok i
    have hix : ∀ r : Ob, (r :: .var ba 65 (accC had n vs) :: obs : List Ob)[i + 2]? = some o := fun r => by rw [List.getElem?_cons_succ, List.getElem?_cons_succ]; exact ho
    have hld : (accC had n vs)[0 + 9 + (i : Int).toNat * 1]? = some (.slice A (qs i).length c) := by
      have := accC_vs (n := n) hhl hv; rw [← this]; congr 1; omega
    repeat' (first | refine WP_seq ?_ | refine WP_region ?_ | refine wl_nil ?_ | refine then_normal ?_ | refine WP_skip ?_ | refine WP_block ?_ | (refine g_move ?_; refine st_move rfl ?_) | (refine g_assign ?_; refine st_assign rfl ?_) | (refine g_b_lss ?_; refine st_val rfl (r_lss rfl rfl) ?_) | (refine g_nilCheck ?_; refine st_val rfl (r_nilCheck rfl) ?_) | (refine g_c_len ?_; refine st_val rfl (r_lenSlice rfl) ?_) | (refine g_fieldAddr ?_; refine st_val rfl (r_fieldAddrL rfl) ?_) | (refine g_indexAddr ?_; (refine st_val rfl (r_indexAddrArrL rfl rfl ?_ ?_) ?_; (first | omega | (simp <;> omega)); (first | omega | (simp <;> omega)))) | (refine st_val rfl (r_loadVar (i := 1) S rfl rfl hld) ?_) | (refine WP_cond rfl (fun h => ?_) (fun h => ?_) <;> (fail_if_success (have hh : true = true := h)) <;> (fail_if_success (have hh : false = false := h)) <;> (try simp only [decide_eq_true_eq, decide_eq_false_iff_not, Bool.not_eq_true', Bool.not_eq_false', Int.not_lt, Int.not_le] at h) <;> (try (exfalso; omega))))
    refine WP_loop (fun k σ w1 => ∃ m : Nat, Has σ [(8, .pointer (some ⟨ba, 0, none⟩)), (10, .slice (some ⟨bo, 0, none⟩) n.toNat n.toNat), (11, .int .i64 (i : Int)), (27, .int .i64 (n.toNat : Int)), (28, .int .i64 (i : Int)), (36, .slice A (qs i).length c), (37, .int .i64 (qs i).length), (38, .int .i64 (m : Int))] ∧ St w0 w1 (rowOb (fInt .i64) 3 (.slice (some ⟨bo, 0, none⟩) n.toNat n.toNat) (partS n.toNat qs i m) :: .var ba 65 (accC had n vs) :: obs) ∧ m ≤ (qs i).length ∧ k = (qs i).length - m) (qs i).length ⟨0, ⟨rfl, rfl, rfl, rfl, rfl, rfl, rfl, rfl, trivial⟩, S, by omega, by omega⟩ ?_
    clear S
    rintro k σ w2 ⟨m, hs2, S, hm1, rfl⟩
    refine WP_has hs2 ?_
    by_cases hm : m < (qs i).length
    · have hx := nth_get (l := qs i) (i := (m : Int)) (by omega) (by omega)
      rw [Int.toNat_natCast] at hx
      have hxr := hqi.2 _ (List.mem_of_getElem? hx)
      have hpl := partS_len (n := n.toNat) (qs := qs) (i := i) (m := m)
      have hpg := partS_get (n := n.toNat) (qs := qs) (i := i) (m := m) hi
      rw [if_neg (by omega), if_pos rfl] at hpg
      have hpn : nth (partS n.toNat qs i m) (i : Int) = sumR ((qs i).take m) := by unfold nth; rw [Int.toNat_natCast, List.getD_eq_getElem?_getD, hpg]; rfl
      have hsb := sumR_bound ((qs i).take m) (fun c hc => hqi.2 c (List.mem_of_mem_take hc))
      have htl : ((qs i).take m).length ≤ 60 := by rw [List.length_take]; omega
      repeat' (first | refine WP_seq ?_ | refine WP_region ?_ | refine wl_nil ?_ | refine then_normal ?_ | refine WP_skip ?_ | refine WP_block ?_ | refine WP_drawTail 8 (by kernel_rfl) (by decide +kernel) ?_ | (refine ql_nil ?_; intro w hb; replace S := S.grow hb; clear hb) | (refine g_b_lss ?_; refine st_val rfl (r_lss rfl rfl) ?_) | (refine g_indexAddr ?_; (refine st_val rfl (r_indexAddr (hqu.rd S (hix _)) rfl rfl ?_ ?_) ?_; (first | omega | (simp <;> omega)); (first | omega | (simp <;> omega)))) | (refine g_load ?_; (refine st_val rfl (r_loadElem (hqu.rd S (hix _)) rfl ?_ ?_) ?_; (first | omega | (simp <;> omega)); (first | omega | (simp <;> omega)))) | (refine gq_move ?_; refine q_move rfl ?_) | (refine gq_b_add ?_; (refine q_val rfl (fun w' hb => r_addN rfl rfl ?_ ?_) ?_; (first | omega | (simp <;> omega)); (first | omega | (simp <;> omega)))) | (refine gq_fieldAddr ?_; refine q_val rfl (fun w' hb => r_fieldAddrL rfl) ?_) | (refine gq_indexAddr ?_; (refine q_val rfl (fun w' hb => r_indexAddr ((S.grow hb).rdRow (D := fInt .i64) (i := 1) rfl) rfl rfl ?_ ?_) ?_; (first | omega | (simp <;> omega)); (first | omega | (simp <;> omega)))) | (refine gq_load ?_; first | (refine q_val rfl (fun w' hb => r_loadElem1 ((S.grow hb).rdRow (D := fInt .i64) (i := 1) rfl) rfl ?_ ?_ rfl) ?_; (first | omega | (simp <;> omega)); (first | omega | (simp <;> omega))) | refine q_val rfl (fun w' hb => r_loadVar (i := 0) (S.grow hb) rfl rfl rfl) ?_) | (refine g_alloc ?_; refine st_valE rfl (r_alloc S) ?_; rintro _ w ⟨b, rfl, -, S'⟩; replace S := S'.front; clear S') | (refine g_store ?_; (refine st_skipE rfl (r_storeVar (i := 0) S rfl rfl rfl rfl (of_decide_eq_true rfl) (of_decide_eq_true rfl)) ?_; intro w S'; replace S := S'; clear S')) | (refine WP_cond rfl (fun h => ?_) (fun h => ?_) <;> (fail_if_success (have hh : true = true := h)) <;> (fail_if_success (have hh : false = false := h)) <;> (try simp only [decide_eq_true_eq, decide_eq_false_iff_not, Bool.not_eq_true', Bool.not_eq_false', Int.not_lt, Int.not_le] at h) <;> (try (exfalso; omega))))
      refine g_store ?_
      refine st_skipE rfl (r_storeElem (i := 1) (D := fInt .i64) (x := nth (partS n.toNat qs i m) (i : Int) + (nth (qs i) (m : Int)).Rest) (j := (i : Int)) S rfl rfl rfl rfl (fun u hu => by cases List.mem_singleton.1 hu; rfl) (by omega) (by omega)) ?_
      intro w S'
      have e : (partS n.toNat qs i m).set (i : Int).toNat (nth (partS n.toNat qs i m) (i : Int) + (nth (qs i) (m : Int)).Rest) = partS n.toNat qs i (m + 1) := by
        rw [hpn, Int.toNat_natCast]; exact partS_set hi hx
      replace S : St w0 w (rowOb (fInt .i64) 3 (.slice (some ⟨bo, 0, none⟩) n.toNat n.toNat) (partS n.toNat qs i (m + 1)) :: .var ba 65 (accC had n vs) :: obs) := by rw [← e]; exact St.tail S'
      repeat' (first | refine WP_region ?_ | refine wl_nil ?_ | refine then_normal ?_ | refine inB_normal ?_ | (refine g_move ?_; refine st_move rfl ?_) | (refine g_b_add ?_; (refine st_val rfl (r_addN rfl rfl ?_ ?_) ?_; (first | omega | (simp <;> omega)); (first | omega | (simp <;> omega)))))
      refine ⟨⟨_, ?_, m + 1, ⟨rfl, rfl, rfl, rfl, rfl, rfl, rfl, rfl, trivial⟩, S, by omega, rfl⟩⟩
      omega
    · repeat' (first | refine WP_seq ?_ | refine WP_region ?_ | refine wl_nil ?_ | refine then_normal ?_ | refine inB_normal ?_ | refine then_exit ?_ | refine inB_here ?_ | refine WP_exit ?_ | (refine g_move ?_; refine st_move rfl ?_) | (refine g_b_add ?_; (refine st_val rfl (r_addN rfl rfl ?_ ?_) ?_; (first | omega | (simp <;> omega)); (first | omega | (simp <;> omega)))) | (refine g_b_lss ?_; refine st_val rfl (r_lss rfl rfl) ?_) | (refine WP_cond rfl (fun h => ?_) (fun h => ?_) <;> (fail_if_success (have hh : true = true := h)) <;> (fail_if_success (have hh : false = false := h)) <;> (try simp only [decide_eq_true_eq, decide_eq_false_iff_not, Bool.not_eq_true', Bool.not_eq_false', Int.not_lt, Int.not_le] at h) <;> (try (exfalso; omega))))
      refine ⟨⟨_, ?_, i + 1, ⟨rfl, rfl, rfl, rfl, trivial⟩, by rw [← partS_next (m := m) (by omega)]; exact S, by omega, rfl⟩⟩
      omega
  · repeat' (first | refine WP_seq ?_ | refine WP_region ?_ | refine wl_nil ?_ | refine then_normal ?_ | refine then_exit ?_ | refine inB_here ?_ | refine WP_ret ?_ | refine WP_exit ?_ | (refine g_move ?_; refine st_move rfl ?_) | (refine g_assign ?_; refine st_assign rfl ?_) | (refine g_b_lss ?_; refine st_val rfl (r_lss rfl rfl) ?_) | (refine WP_cond rfl (fun h => ?_) (fun h => ?_) <;> (fail_if_success (have hh : true = true := h)) <;> (fail_if_success (have hh : false = false := h)) <;> (try simp only [decide_eq_true_eq, decide_eq_false_iff_not, Bool.not_eq_true', Bool.not_eq_false', Int.not_lt, Int.not_le] at h) <;> (try (exfalso; omega))))
    have e : i = n.toNat := by omega
    subst e
    refine end2 rfl rfl rfl ⟨_, rfl, S.below, .slice (some ⟨bo, 0, none⟩) n.toNat n.toNat, ?_, ?_⟩
    · rw [he]; rfl
    · rw [hcl, ← partS_all (m := 0)]; exact S.row (i := 0) rfl

end Go.Proofs.Ytcbidfedffegpaa
