import Derived.Test.YtgphmhpcaeiglaaN
namespace Go.Proofs.Ytgphmhpcaeiglaa
open Go Go.Gx Go.RowKit
set_option linter.unusedVariables false
set_option linter.unusedSimpArgs false

def exC : List GReading := [⟨1000, 2000, 2010⟩]
def exS : List GSpell := [⟨0, 10⟩, ⟨5, 15⟩, ⟨8, 9⟩, ⟨12, 20⟩]
theorem exC_valid : validC 100 exC = true := by decide
theorem ex_agree : AgreeOK exS 8 9 3 := by
  refine .inr ⟨by decide, fun s => ?_, by decide, fun s h => ?_, by decide, fun s h1 h2 => ?_, by decide⟩
  all_goals (simp only [exS, insideI]; (repeat' split) <;> omega)
theorem firstC_is {d : Int} {l : List GReading} (hc : OkC d l) {t r : Int} (r0 : 1 ≤ r) (r1 : r ≤ 10000000) (h1 : highB d l (r - 1) < t) (h2 : t ≤ highB d l r) : firstC d l t = r := by
  obtain ⟨F, hF, f0, f1, flo, fhi⟩ := firstC_ex hc t
  rw [hF]
  rcases Int.lt_trichotomy F r with h | h | h
  · have := fhi (r - 1) (by omega) (by omega); omega
  · exact h
  · have := flo r (by omega) h; omega
theorem beyondC_is {d : Int} {l : List GReading} (hc : OkC d l) {t r : Int} (r0 : 1 ≤ r) (r1 : r ≤ 10000000) (h1 : lowB d l (r - 1) ≤ t) (h2 : t < lowB d l r) : beyondC d l t = r := by
  obtain ⟨F, hF, f0, f1, flo, fhi⟩ := beyondC_ex hc t
  rw [hF]
  rcases Int.lt_trichotomy F r with h | h | h
  · have := fhi (r - 1) (by omega) (by omega); omega
  · exact h
  · have := flo r (by omega) h; omega
theorem ex_reads : readsI 100 exC 2005 = (994, 1006, 0) := by
  have hc := validC_ok exC_valid
  have h1 : firstC 100 exC 2005 = 994 := firstC_is hc (by decide) (by decide) (by decide) (by decide)
  have h2 : beyondC 100 exC 2005 = 1007 := beyondC_is hc (by decide) (by decide) (by decide) (by decide)
  unfold readsI
  rw [h1, h2, if_pos ⟨exC_valid, by decide, by decide, by decide⟩]; rfl
theorem spread_is {d n a b : Int} {w : World} (h1 : leastS d n = a) (h2 : mostS d n = b) : CallsV Try.prog 10 #[.int .i64 d, .int .i64 n] w (.tuple #[.int .i64 a, .int .i64 b]) := by
  rw [← h1, ← h2]; exact spread_spec
theorem at_is {d x a b e : Int} {v : Value} {l : List GReading} {w0 : World} (h : atI d l x = (a, b, e)) (hd : inI d) (hx : inI x) (hl : l.length ≤ maxLen) (hr : Rd fGReading.ty w0 v l) :
    CallsV Try.prog 19 #[.agg #[.int .i64 d, v], .int .i64 x] w0 (.tuple #[.int .i64 a, .int .i64 b, .int .i64 e]) := by
  have := at_spec hr hl hd hx; rw [h] at this; exact this
theorem reads_is {d x a b e : Int} {v : Value} {l : List GReading} {w0 : World} (h : readsI d l x = (a, b, e)) (hd : inI d) (hx : inI x) (hl : l.length ≤ maxLen) (hr : Rd fGReading.ty w0 v l) :
    CallsV Try.prog 21 #[.agg #[.int .i64 d, v], .int .i64 x] w0 (.tuple #[.int .i64 a, .int .i64 b, .int .i64 e]) := by
  have := reads_spec hr hl hd hx; rw [h] at this; exact this
theorem before_is {d x t : Int} {b : Bool} {v : Value} {l : List GReading} {w0 : World} (h : beforeI d l x t = b) (hd : inI d) (hx : inI x) (hl : l.length ≤ maxLen) (hr : Rd fGReading.ty w0 v l) :
    CallsV Try.prog 23 #[.agg #[.int .i64 d, v], .int .i64 x, .int .i64 t] w0 (.bool b) := by
  rw [← h]; exact before_spec hr hl hd hx
theorem after_is {d x t : Int} {b : Bool} {v : Value} {l : List GReading} {w0 : World} (h : afterI d l x t = b) (hd : inI d) (hx : inI x) (hl : l.length ≤ maxLen) (hr : Rd fGReading.ty w0 v l) :
    CallsV Try.prog 25 #[.agg #[.int .i64 d, v], .int .i64 x, .int .i64 t] w0 (.bool b) := by
  rw [← h]; exact after_spec hr hl hd hx

set_option maxRecDepth 8000 in
set_option maxHeartbeats 1000000 in
theorem sane_spec {w : World} : CallsV Try.prog 9 #[] w (.bool true) := by
  have S := St.start w
  have iC : inI 100 := ⟨by decide, by decide⟩
  have i1 : inI 1110 := ⟨by decide, by decide⟩
  have i2 : inI 890 := ⟨by decide, by decide⟩
  have i3 : inI 2005 := ⟨by decide, by decide⟩
  have eL : exC.length ≤ maxLen := by decide
  have sp1 := fun w => spread_is (d := 0) (n := 7) (a := 7) (b := 7) (w := w) (by decide) (by decide)
  have sp2 := fun w => spread_is (d := 100) (n := 0) (a := 0) (b := 1) (w := w) (by decide) (by decide)
  have sp3 := fun w => spread_is (d := 100) (n := 110) (a := 100) (b := 123) (w := w) (by decide) (by decide)
  have at1 := fun v w => at_is (d := 100) (l := exC) (x := 1110) (a := 2100) (b := 2133) (e := 0) (v := v) (w0 := w) (by decide) iC i1 eL
  have at2 := fun v w => at_is (d := 100) (l := exC) (x := 890) (a := 1877) (b := 1910) (e := 0) (v := v) (w0 := w) (by decide) iC i2 eL
  have rd1 := fun v w => reads_is (d := 100) (l := exC) (x := 2005) (v := v) (w0 := w) ex_reads iC i3 eL
  have bf1 := fun v w => before_is (d := 100) (l := exC) (x := 890) (t := 1911) (b := true) (v := v) (w0 := w) (by decide) iC i2 eL
  have bf2 := fun v w => before_is (d := 100) (l := exC) (x := 890) (t := 1910) (b := false) (v := v) (w0 := w) (by decide) iC i2 eL
  have af1 := fun v w => after_is (d := 100) (l := exC) (x := 1110) (t := 2099) (b := true) (v := v) (w0 := w) (by decide) iC i1 eL
  have af2 := fun v w => after_is (d := 100) (l := exC) (x := 1110) (t := 2100) (b := false) (v := v) (w0 := w) (by decide) iC i1 eL
  refine CallsV.mk ?_
  refine calls_enter Try.func9 rfl Try.ntmps9 rfl ?_
  repeat' (first | refine WP_seq ?_ | refine WP_region ?_ | refine wl_nil ?_ | refine then_normal ?_ | (refine g_assign ?_; refine st_assign rfl ?_) | (refine g_build ?_; refine st_val rfl (bd48_0_1_2 rfl rfl rfl) ?_))
  refine st_valE rfl (r_litF (D := fGReading) exC (vA fGReading) S rfl rfl (fun _ => rfl) rfl (by decide) (by decide)) ?_
  rintro _ w ⟨b1, rfl, -, -, S'⟩; replace S := S'; clear S'
  repeat' (first | refine WP_seq ?_ | refine WP_region ?_ | refine wl_nil ?_ | refine then_normal ?_ | (refine g_move ?_; refine st_move rfl ?_) | (refine g_assign ?_; refine st_assign rfl ?_) | (refine g_build ?_; first | refine st_val rfl (bd24_0_1 rfl rfl) ?_ | refine st_val rfl (bd32_0_1 rfl rfl) ?_) | (refine g_extract ?_; refine st_val rfl (r_extract rfl rfl) ?_) | (refine g_load ?_; refine st_val rfl (r_loadVarA (i := 1) S rfl rfl rfl rfl) ?_) | (refine g_callV ?_; first | (refine st_callV rfl (r_call2 rfl rfl rfl) (sp1 _) ?_; intro w hb; replace S := S.grow hb; clear hb) | (refine st_callV rfl (r_call2 rfl rfl rfl) (sp2 _) ?_; intro w hb; replace S := S.grow hb; clear hb) | (refine st_callV rfl (r_call2 rfl rfl rfl) (sp3 _) ?_; intro w hb; replace S := S.grow hb; clear hb) | (refine st_callV rfl (r_call2 rfl rfl rfl) (at1 _ _ (S.rdRow (D := fGReading) (i := 0) rfl)) ?_; intro w hb; replace S := S.grow hb; clear hb) | (refine st_callV rfl (r_call2 rfl rfl rfl) (at2 _ _ (S.rdRow (D := fGReading) (i := 0) rfl)) ?_; intro w hb; replace S := S.grow hb; clear hb) | (refine st_callV rfl (r_call2 rfl rfl rfl) (rd1 _ _ (S.rdRow (D := fGReading) (i := 0) rfl)) ?_; intro w hb; replace S := S.grow hb; clear hb)) | (refine g_alloc ?_; refine st_valE rfl (r_alloc S) ?_; rintro _ w ⟨b, rfl, -, S'⟩; replace S := S'; clear S') | (refine g_store ?_; first | (refine st_skipE rfl (r_storeVar (i := 0) S rfl rfl rfl rfl (of_decide_eq_true rfl) (of_decide_eq_true rfl)) ?_; intro w S'; replace S := S'; clear S') | (refine st_skipE rfl (r_storeVar (i := 1) S rfl rfl rfl rfl (of_decide_eq_true rfl) (of_decide_eq_true rfl)) ?_; intro w S'; replace S := S'; clear S') | (refine st_skipE rfl (r_storeVar (i := 2) S rfl rfl rfl rfl (of_decide_eq_true rfl) (of_decide_eq_true rfl)) ?_; intro w S'; replace S := S'; clear S')))
  refine st_valE rfl (r_litF (D := fGSpell) exS (vA fGSpell) S rfl rfl (fun _ => rfl) rfl (by decide) (by decide)) ?_
  rintro _ w ⟨b2, rfl, -, -, S'⟩; replace S := S'; clear S'
  refine st_callR rfl (r_call1 rfl rfl) (agree_spec (S.rdRow (D := fGSpell) (i := 2) rfl) (by decide)) ?_
  rintro _ w hb ⟨f, t, k, rfl, hok⟩; replace S := S.grow hb; clear hb
  obtain ⟨rfl, rfl, rfl⟩ := agree_unique hok ex_agree
  repeat' (first | refine WP_seq ?_ | refine WP_region ?_ | refine wl_nil ?_ | refine then_normal ?_ | refine WP_ret ?_ | (refine g_move ?_; refine st_move rfl ?_) | (refine g_assign ?_; refine st_assign rfl ?_) | (refine g_pick ?_; refine st_pickT rfl rfl ?_) | (refine g_b_eql ?_; first | refine st_val rfl (r_eql rfl rfl) ?_ | refine st_val rfl (eql32 rfl rfl) ?_) | (refine g_build ?_; refine st_val rfl (bd32_0_1 rfl rfl) ?_) | (refine g_un ?_; refine st_val rfl (r_not rfl) ?_) | (refine g_extract ?_; refine st_val rfl (r_extract rfl rfl) ?_) | (refine g_load ?_; first | refine st_val rfl (r_loadVarA (i := 1) S rfl rfl rfl rfl) ?_ | refine st_val rfl (r_loadVarA (i := 3) S rfl rfl rfl rfl) ?_) | (refine g_callV ?_; first | (refine st_callV rfl (r_call1 rfl rfl) (validC_is (S.rdRow (D := fGReading) (i := 0) rfl) eL iC exC_valid) ?_; intro w hb; replace S := S.grow hb; clear hb) | (refine st_callV rfl (r_call3 rfl rfl rfl rfl) (bf1 _ _ (S.rdRow (D := fGReading) (i := 0) rfl)) ?_; intro w hb; replace S := S.grow hb; clear hb) | (refine st_callV rfl (r_call3 rfl rfl rfl rfl) (bf2 _ _ (S.rdRow (D := fGReading) (i := 0) rfl)) ?_; intro w hb; replace S := S.grow hb; clear hb) | (refine st_callV rfl (r_call3 rfl rfl rfl rfl) (af1 _ _ (S.rdRow (D := fGReading) (i := 0) rfl)) ?_; intro w hb; replace S := S.grow hb; clear hb) | (refine st_callV rfl (r_call3 rfl rfl rfl rfl) (af2 _ _ (S.rdRow (D := fGReading) (i := 0) rfl)) ?_; intro w hb; replace S := S.grow hb; clear hb)) | (refine g_alloc ?_; refine st_valE rfl (r_alloc S) ?_; rintro _ w ⟨b, rfl, -, S'⟩; replace S := S'; clear S') | (refine g_store ?_; first | (refine st_skipE rfl (r_storeVar (i := 0) S rfl rfl rfl rfl (of_decide_eq_true rfl) (of_decide_eq_true rfl)) ?_; intro w S'; replace S := S'; clear S') | (refine st_skipE rfl (r_storeVar (i := 1) S rfl rfl rfl rfl (of_decide_eq_true rfl) (of_decide_eq_true rfl)) ?_; intro w S'; replace S := S'; clear S') | (refine st_skipE rfl (r_storeVar (i := 2) S rfl rfl rfl rfl (of_decide_eq_true rfl) (of_decide_eq_true rfl)) ?_; intro w S'; replace S := S'; clear S') | (refine st_skipE rfl (r_storeVar (i := 3) S rfl rfl rfl rfl (of_decide_eq_true rfl) (of_decide_eq_true rfl)) ?_; intro w S'; replace S := S'; clear S') | (refine st_skipE rfl (r_storeVar (i := 4) S rfl rfl rfl rfl (of_decide_eq_true rfl) (of_decide_eq_true rfl)) ?_; intro w S'; replace S := S'; clear S')))
  exact end1 rfl rfl ⟨rfl, S.below⟩
end Go.Proofs.Ytgphmhpcaeiglaa
