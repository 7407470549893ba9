import Derived.Test.YtfdjnadopniaeaaZA
namespace Go.Proofs.Ytfdjnadopniaeaa
open Go Go.Gx Go.RowKit
open Kuhn
set_option linter.unusedVariables false
set_option linter.unusedSimpArgs false

theorem wdI_eq {l : List GGrant} {n t : Int} (hl : validG l = true) (hn : inR n 0 199 = true) (ht : inR t 0 10000000 = true) : wdI l n t = (l.map (cutG n t)).filter liveG := by
  unfold wdI wdN
  rw [if_pos ⟨hl, hn, ht⟩, List.take_length]
theorem filter_map_filter {α : Type} {p : α → Bool} {f g : α → α} (h : ∀ x, p (f (g x)) = true → p (g x) = true) : ∀ l : List α, (((l.map g).filter p).map f).filter p = (l.map fun x => f (g x)).filter p
  | [] => rfl
  | x :: l => by
    have ih := filter_map_filter h l
    simp only [List.map_cons, List.filter_cons]
    cases h1 : p (g x)
    · have h2 : p (f (g x)) = false := by
        cases h3 : p (f (g x))
        · rfl
        · rw [h x h3] at h1; cases h1
      simp only [h2, Bool.false_eq_true, if_false]; exact ih
    · simp only [if_true, List.map_cons, List.filter_cons]
      rw [ih]
theorem cut_cut (n s t : Int) (g : GGrant) : cutG n s (cutG n t g) = cutG n (min s t) g := by
  unfold cutG
  by_cases h : g.Item = n
  · rw [if_pos h, if_pos (show (GGrant.mk g.Item g.Acts g.Regions g.Plays ⟨g.Window.From, min g.Window.To t⟩).Item = n from h), if_pos h]
    show GGrant.mk _ _ _ _ ⟨_, min (min g.Window.To t) s⟩ = GGrant.mk _ _ _ _ ⟨_, min g.Window.To (min s t)⟩
    congr 2
    omega
  · rw [if_neg h, if_neg h, if_neg h]
theorem live_cut {n t : Int} {g : GGrant} (h : liveG (cutG n t g) = true) : liveG g = true := by
  unfold liveG cutG at *
  split at h
  · simp at h ⊢; omega
  · exact h
theorem wd_wd {l : List GGrant} {n s t : Int} (hl : validG l = true) (hv : validG (wdI l n t) = true) (hn : inR n 0 199 = true) (hs : inR s 0 10000000 = true) (ht : inR t 0 10000000 = true) : wdI (wdI l n t) n s = wdI l n (min s t) := by
  have hm : inR (min s t) 0 10000000 = true := by simp [inR] at *; omega
  rw [wdI_eq hv hn hs, wdI_eq hl hn ht, wdI_eq hl hn hm, filter_map_filter (fun x h => live_cut h)]
  congr 1
  exact List.map_congr_left fun g _ => cut_cut n s t g
theorem wd_valid {l : List GGrant} {n t : Int} (hl : validG l = true) (hn : inR n 0 199 = true) (ht : inR t 0 10000000 = true) : validG (wdI l n t) = true := by
  rw [wdI_eq hl hn ht]
  unfold validG at *
  rw [Bool.and_eq_true, List.all_eq_true] at *
  refine ⟨?_, fun g hg => ?_⟩
  · have h1 := hl.1
    have h2 := List.length_filter_le liveG (l.map (cutG n t))
    simp at h1 h2 ⊢; omega
  · obtain ⟨h1, h2⟩ := List.mem_filter.1 hg
    obtain ⟨g0, h3, rfl⟩ := List.mem_map.1 h1
    have h4 := hl.2 g0 h3
    unfold liveG cutG at h2
    unfold okG cutG at *
    rw [decide_eq_true_eq] at *
    split <;> rename_i h5
    · rw [if_pos h5] at h2
      dsimp only at *
      omega
    · exact h4
theorem perN_count (l : List GGrant) (u : GUse) : ∀ n, n ≤ l.length → (perN l u n).length = ((l.take n).filter fun g => permG g u).length
  | 0, _ => by simp [perN]
  | n + 1, h => by
    have ih := perN_count l u n (by omega)
    have e := take_nth (l := l) (i := (n : Int)) (by omega) (by omega)
    rw [show ((n : Int) + 1).toNat = n + 1 by omega, Int.toNat_natCast] at e
    rw [perN_succ, e, List.filter_append, List.length_append, ← ih]
    by_cases hp : permG (nth l n) u = true
    · simp [hp]
    · simp [hp]
theorem perI_count {l : List GGrant} {u : GUse} (hl : validG l = true) (hu : okU u = true) : (perI l u).length = (l.filter fun g => permG g u).length := by
  unfold perI
  rw [if_pos ⟨hl, hu⟩, perN_count l u l.length (Nat.le_refl _), List.take_length]
theorem perm_live {g : GGrant} {u : GUse} (h : permG g u = true) : liveG g = true := by
  unfold permG at h
  unfold liveG
  simp only [Bool.and_eq_true, decide_eq_true_eq] at *
  omega
theorem perm_cut (g : GGrant) (u : GUse) (n t : Int) : permG (cutG n t g) u = if u.Item = n ∧ t ≤ u.At then false else permG g u := by
  unfold cutG
  by_cases h : g.Item = n
  · rw [if_pos h]
    have e : permG (GGrant.mk g.Item g.Acts g.Regions g.Plays ⟨g.Window.From, min g.Window.To t⟩) u = (decide (g.Item = u.Item) && actsI u.Acts g.Acts && bitI g.Regions u.Region.toNat && decide (g.Window.From ≤ u.At) && decide (u.At < min g.Window.To t)) := rfl
    rw [e]
    by_cases h2 : u.Item = n
    · by_cases h3 : t ≤ u.At
      · rw [if_pos ⟨h2, h3⟩, decide_eq_false (show ¬ u.At < min g.Window.To t by omega), Bool.and_false]
      · rw [if_neg (fun h => h3 h.2)]
        have : decide (u.At < min g.Window.To t) = decide (u.At < g.Window.To) := by rw [decide_eq_decide]; omega
        rw [this]; rfl
    · rw [if_neg (fun h => h2 h.1)]
      unfold permG
      rw [decide_eq_false (show ¬ g.Item = u.Item by omega)]; rfl
  · rw [if_neg h]
    by_cases h2 : u.Item = n ∧ t ≤ u.At
    · rw [if_pos h2]
      unfold permG
      rw [decide_eq_false (show ¬ g.Item = u.Item by omega)]; rfl
    · rw [if_neg h2]
theorem per_wd {l : List GGrant} {u : GUse} {n t : Int} (hl : validG l = true) (hu : okU u = true) (hn : inR n 0 199 = true) (ht : inR t 0 10000000 = true) : (perI (wdI l n t) u).length = if u.Item = n ∧ t ≤ u.At then 0 else (perI l u).length := by
  rw [perI_count (wd_valid hl hn ht) hu, perI_count hl hu, wdI_eq hl hn ht, List.filter_filter]
  have e1 : ((l.map (cutG n t)).filter fun g => permG g u && liveG g) = (l.map (cutG n t)).filter fun g => permG g u := List.filter_congr fun g _ => by
    cases h : permG g u
    · rfl
    · rw [perm_live h]; rfl
  rw [e1, List.filter_map, List.length_map]
  have e2 : ((fun g => permG g u) ∘ cutG n t) = fun g => if u.Item = n ∧ t ≤ u.At then false else permG g u := by funext g; exact perm_cut g u n t
  rw [e2]
  by_cases h : u.Item = n ∧ t ≤ u.At
  · simp only [if_pos h]; simp
  · simp only [if_neg h]
theorem same_is {v v2 : Value} {l m : List GGrant} {b : Bool} {w : World} (hr : Rd fGGrant.ty w v l) (hr2 : Rd fGGrant.ty w v2 m) (hl : l.length ≤ 1000) (hm : m.length ≤ 1000) (h : decide (l = m) = b) : CallsV Try.prog 17 #[v, v2] w (.bool b) := by
  rw [← h]; exact sameG_spec hr hr2 (by omega) (by omega)
theorem wdI_len (l : List GGrant) (n t : Int) : (wdI l n t).length ≤ l.length := by
  unfold wdI
  split
  · exact wdN_len l n t l.length
  · simp
end Go.Proofs.Ytfdjnadopniaeaa
