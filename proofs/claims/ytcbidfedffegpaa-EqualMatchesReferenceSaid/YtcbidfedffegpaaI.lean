import Derived.Test.YtcbidfedffegpaaF
import Derived.Test.YtcbidfedffegpaaG
import Derived.Test.YtcbidfedffegpaaH
namespace Go.Proofs.Ytcbidfedffegpaa
open Go Go.Gx Go.RowKit
set_option linter.unusedVariables false
set_option linter.unusedSimpArgs false
theorem sort_uniq : ∀ {l1 l2 : List GClaim}, l1.Perm l2 → l1.Pairwise (fun x y => ltC y x = false) → l2.Pairwise ltP → l1 = l2
  | [], l2, hp, _, _ => (List.nil_perm.1 hp).symm
  | a :: r1, [], hp, _, _ => absurd hp.length_eq (by simp)
  | a :: r1, b :: r2, hp, h1, h2 => by
    have ha : a ∈ b :: r2 := hp.mem_iff.1 (List.mem_cons_self ..)
    have hb : b ∈ a :: r1 := hp.mem_iff.2 (List.mem_cons_self ..)
    rw [List.pairwise_cons] at h1 h2
    have e : a = b := by
      rcases List.mem_cons.1 hb with hb | hb
      · exact hb.symm
      · rcases List.mem_cons.1 ha with ha | ha
        · exact ha
        · have k1 := h1.1 b hb
          have k2 := h2.1 a ha
          have k3 := (cfC_lt b a).2 k2
          unfold ltC at k1; rw [k1] at k3; cases k3
    subst e
    rw [sort_uniq (List.Perm.cons_inv hp) h1.2 h2.2]
def claimsI (n : Int) (l : List GAppearance) (now : Int) : List GClaim := if okA n l now = true then openC n l now l.length else []
def errI (n : Int) (l : List GAppearance) (now : Int) : Int := if okA n l now = true then 0 else 130
theorem claims_flat {n : Int} {l : List GAppearance} {now : Int} (h : validA n l = true) : (((List.range 8).map fun k => qAt n l now l.length k).flatten).Perm (openC n l now l.length) := by
  have hb := q_by (now := now) h l.length (Nat.le_refl _)
  have e : ((List.range 8).map fun k => qAt n l now l.length k) = (List.range 8).map fun k => byC k (openC n l now l.length) := List.map_congr_left fun k _ => hb k
  rw [e]
  have hn := (valid_at h).2.1
  have hf : ((openC n l now l.length).filter fun c => decide (0 ≤ c.Candidate ∧ c.Candidate < ((8 : Nat) : Int))) = openC n l now l.length := by
    rw [List.filter_eq_self]
    intro c hc
    have := (openC_ok (now := now) h l.length (Nat.le_refl _)).mem c hc
    rw [decide_eq_true_eq]; omega
  have := by_perm (openC n l now l.length) 8
  rwa [hf] at this
theorem openC_len {n : Int} {l : List GAppearance} {now : Int} (h : validA n l = true) : (openC n l now l.length).length ≤ 480 := by
  have hp := (claims_flat (now := now) h).length_eq
  have hl := (valid_at h).2.2.1
  have hq := fun k => (qAt_ok (now := now) h l.length (Nat.le_refl _) k).1
  rw [← hp, List.length_flatten, List.map_map]
  have e : (List.range 8) = [0, 1, 2, 3, 4, 5, 6, 7] := rfl
  have h0 := hq 0; have h1 := hq 1; have h2 := hq 2; have h3 := hq 3; have h4 := hq 4; have h5 := hq 5; have h6 := hq 6; have h7 := hq 7
  rw [e]; simp; omega
theorem claims_len {n : Int} {l : List GAppearance} {now : Int} : (claimsI n l now).length ≤ 480 := by
  unfold claimsI; split
  · rename_i h; unfold okA at h; simp only [Bool.and_eq_true] at h; exact openC_len h.1
  · simp
theorem vs_rd {w0 w : World} {b : Nat} {had : List Int} {n : Int} {vs : List Value} {obs : List Ob} (S : St w0 w (.var b 65 (accC had n vs) :: obs)) (hl : had.length = 8) (hv : vs.length = 8) : Rd fVal.ty w (.slice (some ⟨b, 0 + 9, none⟩) 8 8) vs := by
  have := Rd.ofCells (D := fVal) (o := 0 + 9) (c := 8) (l := vs) (S.var (i := 0) rfl) (by omega) (fun j u hj => by
    have e : fl fVal vs = vs := by simp [fl, fVal]
    rw [e] at hj
    have := accC_vs (n := n) hl hj
    rw [← this])
  rwa [hv] at this
theorem q_rd {w0 w : World} {b : Nat} {had : List Int} {n : Int} {vs : List Value} {obs : List Ob} {qs : Nat → List GClaim} (S : St w0 w (.var b 65 (accC had n vs) :: obs)) (hq : QS obs vs qs) {k : Nat} (hk : k < 8) : Rd fGClaim.ty w (nth vs (k : Int)) (qs k) := by
  obtain ⟨o, v, h1, h2, h3⟩ := hq.get hk
  have e : nth vs (k : Int) = v := by unfold nth; rw [Int.toNat_natCast, List.getD_eq_getElem?_getD, h2]; rfl
  rw [e]
  exact h3.rd (i := k + 1) S (by rw [List.getElem?_cons_succ]; exact h1)
def clmG (n : Int) (l : List GAppearance) (now : Int) (w : World) (v : Value) (w' : World) : Prop := ∃ u, v = .tuple #[u, .int .i64 (errI n l now)] ∧ NewRow fGClaim 39 w w' u (claimsI n l now)
theorem claims_run {n now : Int} {v : Value} {l : List GAppearance} {w0 : World} (hn : -9223372036854775808 ≤ n ∧ n ≤ 9223372036854775807) (hr : Rd fGAppearance.ty w0 v l) (hl : l.length ≤ 1000000000) :
    CallsR Try.prog 16 #[.int .i64 n, v, .int .i64 now] w0 (clmG n l now w0) := by
  have S := St.start w0
  refine CallsR.mk ?_
  refine calls_enter Try.func16 rfl (by intro _ h; first | exact nomatch h.1 | (obtain ⟨_, h, _⟩ := h; exact nomatch h)) Try.ntmps16 rfl ?_
  repeat' (first | refine WP_seq ?_ | refine WP_region ?_ | refine wl_nil ?_ | refine then_normal ?_ | (refine g_move ?_; refine st_move rfl ?_) | (refine g_assign ?_; refine st_assign rfl ?_))
  refine st_callR rfl (r_call3 rfl rfl rfl rfl) (open_run hn (hr.mono S.below) hl) ?_
  rintro v w hb ho
  rcases ho with ⟨hok, rfl⟩ | ⟨hok, b, vs, obs, rfl, S', hq⟩
  · replace S := S.grow hb
    repeat' (first | refine WP_seq ?_ | refine WP_region ?_ | refine wl_nil ?_ | refine then_normal ?_ | refine then_ret ?_ | refine WP_ret ?_ | refine WP_condT rfl ?_ | (refine g_move ?_; refine st_move rfl ?_) | (refine g_assign ?_; refine st_assign rfl ?_) | (refine g_b_neq ?_; refine st_val rfl (r_neq rfl rfl) ?_) | (refine g_extract ?_; refine st_val rfl (r_extract rfl rfl) ?_))
    have he : errI n l now = 130 := by unfold errI; rw [if_neg (by simp [hok])]
    have hcl : claimsI n l now = [] := by unfold claimsI; rw [if_neg (by simp [hok])]
    refine end2 rfl rfl rfl ⟨_, rfl, S.below, .slice none 0 0, ?_, ?_⟩
    · rw [he]; rfl
    · rw [hcl]; exact NewRow.nil fGClaim 39 _ _
  · replace S : St w0 w (.var b 65 (accC (hadAt l now l.length) n vs) :: obs) := S'
    clear S' hb
    have hvd : validA n l = true := by unfold okA at hok; simp only [Bool.and_eq_true] at hok; exact hok.1
    repeat' (first | refine WP_seq ?_ | refine WP_region ?_ | refine wl_nil ?_ | refine then_normal ?_ | refine WP_skip ?_ | refine WP_condF rfl ?_ | (refine g_move ?_; refine st_move rfl ?_) | (refine g_assign ?_; refine st_assign rfl ?_) | (refine g_b_neq ?_; refine st_val rfl (r_neq rfl rfl) ?_) | (refine g_nilCheck ?_; refine st_val rfl (r_nilCheck rfl) ?_) | (refine g_extract ?_; refine st_val rfl (r_extract rfl rfl) ?_) | (refine g_fieldAddr ?_; refine st_val rfl (r_fieldAddrL rfl) ?_) | (refine st_val rfl (r_sliceArr rfl (by omega)) ?_))
    have he : errI n l now = 0 := by unfold errI; rw [if_pos hok]
    have hcl : claimsI n l now = openC n l now l.length := by unfold claimsI; rw [if_pos hok]
    have hfl := claims_flat (now := now) hvd
    have hol := openC_len (now := now) hvd
    refine st_callR rfl (r_call1 rfl rfl) (concat_run (vs := vs) (g := (List.range 8).map fun k => qAt n l now l.length k) (vs_rd S (hadAt_len _) hq.2.1) (by rw [hq.2.1]; rfl) (fun k hk => ?_) (by rw [hfl.length_eq]; omega) (by simp)) ?_
    · have hk8 : k < 8 := by simpa using hk
      have := q_rd S hq hk8
      have e : ((List.range 8).map fun k => qAt n l now l.length k).getD k [] = qAt n l now l.length k := by
        rw [List.getD_eq_getElem?_getD, List.getElem?_map, List.getElem?_range hk8]; rfl
      rw [e]; exact this
    rintro v1 w1 hb hrow
    replace S := (S.new hb hrow).front
    clear hb hrow
    repeat' (first | refine WP_seq ?_ | refine WP_region ?_ | refine wl_nil ?_ | refine then_normal ?_ | (refine g_move ?_; refine st_move rfl ?_) | (refine g_assign ?_; refine st_assign rfl ?_))
    refine st_callW rfl (r_call2 rfl rfl rfl) (sortC_any S (i := 0) rfl (by rw [hfl.length_eq]; omega)) ?_
    rintro _ w2 ⟨rfl, l', hp, hpl, hpw, S'⟩
    have e := sort_uniq (hp.trans hfl) hpw (openC_ok (now := now) hvd l.length (Nat.le_refl _)).pw
    subst e
    replace S := S'
    repeat' (first | refine WP_seq ?_ | refine WP_region ?_ | refine wl_nil ?_ | refine then_normal ?_ | refine WP_ret ?_ | (refine g_move ?_; refine st_move rfl ?_) | (refine g_assign ?_; refine st_assign rfl ?_))
    refine end2 rfl rfl rfl ⟨_, rfl, S.below, v1, ?_, ?_⟩
    · rw [he]; rfl
    · rw [hcl]; exact S.row (i := 0) rfl
end Go.Proofs.Ytcbidfedffegpaa
