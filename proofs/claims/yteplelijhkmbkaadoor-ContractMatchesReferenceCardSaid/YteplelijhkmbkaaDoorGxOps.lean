/-
  What single operations come to: one lemma for each shape.
-/
import Derived.Test.YteplelijhkmbkaaDoorGxCore
namespace Go.Gx
set_option linter.unusedSimpArgs false
open Go Go.RowKit

/-- What types are. -/
class IsInt (P : Program) (T : TypeId) (k : outParam IntKind) : Prop where out : P.underlying T = some (.int k)
class IsSlice (P : Program) (T : TypeId) (e : outParam TypeId) : Prop where out : P.underlying T = some (.slice e)
class IsArr (P : Program) (T : TypeId) (n : outParam Nat) (e : outParam TypeId) : Prop where out : P.underlying T = some (.array n e)
class IsBool (P : Program) (T : TypeId) : Prop where out : P.underlying T = some .bool
class IsStr (P : Program) (T : TypeId) : Prop where out : P.underlying T = some .string

section
variable {P : Program} {ρ : Operand → Value} {w : World} {d : Option Tmp} {ty : TypeId} {pos : String} {af : Array Edge} {g : Option (Nat × Bool)} {T T' : TypeId} {s t : Operand} {k k' : IntKind} {x y : Int}

theorem r_add (h1 : ρ s = .int k x) (h2 : ρ t = .int k y) : Runs P ρ ⟨d, .binOp .add T s t T', ty, pos, af, g⟩ w (.ok (.value (.int k (k.wrap (x + y)))) w) :=
  ⟨by simp [execOp, h1, h2, binOp, eqGuard, Op.intArith, pure, bind, Sem.bind, Sem.run]⟩
theorem r_sub (h1 : ρ s = .int k x) (h2 : ρ t = .int k y) : Runs P ρ ⟨d, .binOp .sub T s t T', ty, pos, af, g⟩ w (.ok (.value (.int k (k.wrap (x - y)))) w) :=
  ⟨by simp [execOp, h1, h2, binOp, eqGuard, Op.intArith, pure, bind, Sem.bind, Sem.run]⟩
theorem r_mul (h1 : ρ s = .int k x) (h2 : ρ t = .int k y) : Runs P ρ ⟨d, .binOp .mul T s t T', ty, pos, af, g⟩ w (.ok (.value (.int k (k.wrap (x * y)))) w) :=
  ⟨by simp [execOp, h1, h2, binOp, eqGuard, Op.intArith, pure, bind, Sem.bind, Sem.run]⟩
theorem wrap_in {z : Int} (h0 : -9223372036854775808 ≤ z) (h1 : z ≤ 9223372036854775807) : IntKind.i64.wrap z = z := by rw [IntKind.wrap_i64]; omega
theorem r_addN (h1 : ρ s = .int .i64 x) (h2 : ρ t = .int .i64 y) (h0 : -9223372036854775808 ≤ x + y) (h : x + y ≤ 9223372036854775807) : Runs P ρ ⟨d, .binOp .add T s t T', ty, pos, af, g⟩ w (.ok (.value (.int .i64 (x + y))) w) := by
  have := r_add (P := P) (w := w) (d := d) (ty := ty) (pos := pos) (af := af) (g := g) (T := T) (T' := T') h1 h2; rwa [wrap_in h0 h] at this
theorem r_subN (h1 : ρ s = .int .i64 x) (h2 : ρ t = .int .i64 y) (h0 : -9223372036854775808 ≤ x - y) (h : x - y ≤ 9223372036854775807) : Runs P ρ ⟨d, .binOp .sub T s t T', ty, pos, af, g⟩ w (.ok (.value (.int .i64 (x - y))) w) := by
  have := r_sub (P := P) (w := w) (d := d) (ty := ty) (pos := pos) (af := af) (g := g) (T := T) (T' := T') h1 h2; rwa [wrap_in h0 h] at this
theorem r_mulN (h1 : ρ s = .int .i64 x) (h2 : ρ t = .int .i64 y) (h0 : -9223372036854775808 ≤ x * y) (h : x * y ≤ 9223372036854775807) : Runs P ρ ⟨d, .binOp .mul T s t T', ty, pos, af, g⟩ w (.ok (.value (.int .i64 (x * y))) w) := by
  have := r_mul (P := P) (w := w) (d := d) (ty := ty) (pos := pos) (af := af) (g := g) (T := T) (T' := T') h1 h2; rwa [wrap_in h0 h] at this
theorem r_quo (h1 : ρ s = .int k x) (h2 : ρ t = .int k y) (h0 : y ≠ 0) : Runs P ρ ⟨d, .binOp .quo T s t T', ty, pos, af, g⟩ w (.ok (.value (.int k (k.wrap (x.tdiv y)))) w) :=
  ⟨by simp [execOp, h1, h2, binOp, eqGuard, Op.intDiv, h0, pure, bind, Sem.bind, Sem.run]⟩
theorem r_rem (h1 : ρ s = .int k x) (h2 : ρ t = .int k y) (h0 : y ≠ 0) : Runs P ρ ⟨d, .binOp .rem T s t T', ty, pos, af, g⟩ w (.ok (.value (.int k (x.tmod y))) w) :=
  ⟨by simp [execOp, h1, h2, binOp, eqGuard, Op.intDiv, h0, pure, bind, Sem.bind, Sem.run]⟩
theorem r_quoN (h1 : ρ s = .int .i64 x) (h2 : ρ t = .int .i64 y) (h0 : 0 ≤ x) (hx : x ≤ 9223372036854775807) (h : 0 < y) : Runs P ρ ⟨d, .binOp .quo T s t T', ty, pos, af, g⟩ w (.ok (.value (.int .i64 (x / y))) w) := by
  have := r_quo (P := P) (w := w) (d := d) (ty := ty) (pos := pos) (af := af) (g := g) (T := T) (T' := T') h1 h2 (by omega)
  rwa [Int.tdiv_eq_ediv_of_nonneg h0, wrap_in (by have := Int.ediv_nonneg h0 (Int.le_of_lt h); omega) (by have := Int.ediv_le_self y h0; omega)] at this
theorem r_remN (h1 : ρ s = .int k x) (h2 : ρ t = .int k y) (h0 : 0 ≤ x) (h : 0 < y) : Runs P ρ ⟨d, .binOp .rem T s t T', ty, pos, af, g⟩ w (.ok (.value (.int k (x % y))) w) := by
  have := r_rem (P := P) (w := w) (d := d) (ty := ty) (pos := pos) (af := af) (g := g) (T := T) (T' := T') h1 h2 (by omega)
  rwa [Int.tmod_eq_emod_of_nonneg h0] at this
theorem r_eql (h1 : ρ s = .int k x) (h2 : ρ t = .int k y) : Runs P ρ ⟨d, .binOp .eql T s t T', ty, pos, af, g⟩ w (.ok (.value (.bool (decide (x = y)))) w) :=
  ⟨by simp [execOp, h1, h2, binOp, eqGuard, Op.intCmp, pure, bind, Sem.bind, Sem.run]; rfl⟩
theorem r_neq (h1 : ρ s = .int k x) (h2 : ρ t = .int k y) : Runs P ρ ⟨d, .binOp .neq T s t T', ty, pos, af, g⟩ w (.ok (.value (.bool (!decide (x = y)))) w) :=
  ⟨by simp [execOp, h1, h2, binOp, eqGuard, Op.intCmp, pure, bind, Sem.bind, Sem.run]; rfl⟩
theorem r_lss (h1 : ρ s = .int k x) (h2 : ρ t = .int k y) : Runs P ρ ⟨d, .binOp .lss T s t T', ty, pos, af, g⟩ w (.ok (.value (.bool (decide (x < y)))) w) :=
  ⟨by simp [execOp, h1, h2, binOp, eqGuard, Op.intCmp, pure, bind, Sem.bind, Sem.run]⟩
theorem r_leq (h1 : ρ s = .int k x) (h2 : ρ t = .int k y) : Runs P ρ ⟨d, .binOp .leq T s t T', ty, pos, af, g⟩ w (.ok (.value (.bool (decide (x ≤ y)))) w) :=
  ⟨by simp [execOp, h1, h2, binOp, eqGuard, Op.intCmp, pure, bind, Sem.bind, Sem.run]⟩
theorem r_gtr (h1 : ρ s = .int k x) (h2 : ρ t = .int k y) : Runs P ρ ⟨d, .binOp .gtr T s t T', ty, pos, af, g⟩ w (.ok (.value (.bool (decide (y < x)))) w) :=
  ⟨by simp [execOp, h1, h2, binOp, eqGuard, Op.intCmp, pure, bind, Sem.bind, Sem.run]⟩
theorem r_geq (h1 : ρ s = .int k x) (h2 : ρ t = .int k y) : Runs P ρ ⟨d, .binOp .geq T s t T', ty, pos, af, g⟩ w (.ok (.value (.bool (decide (y ≤ x)))) w) :=
  ⟨by simp [execOp, h1, h2, binOp, eqGuard, Op.intCmp, pure, bind, Sem.bind, Sem.run]⟩
theorem r_shl (h1 : ρ s = .int k x) (h2 : ρ t = .int k' y) (h0 : 0 ≤ y) : Runs P ρ ⟨d, .binOp .shl T s t T', ty, pos, af, g⟩ w (.ok (.value (.int k (k.wrap (x * 2 ^ (min y.toNat k.bits))))) w) :=
  ⟨by simp [execOp, h1, h2, binOp, eqGuard, Op.shift, Int.not_lt.2 h0, pure, bind, Sem.bind, Sem.run]⟩
theorem r_shr (h1 : ρ s = .int k x) (h2 : ρ t = .int k' y) (h0 : 0 ≤ y) : Runs P ρ ⟨d, .binOp .shr T s t T', ty, pos, af, g⟩ w (.ok (.value (.int k (x.fdiv (2 ^ (min y.toNat k.bits))))) w) :=
  ⟨by simp [execOp, h1, h2, binOp, eqGuard, Op.shift, Int.not_lt.2 h0, pure, bind, Sem.bind, Sem.run]⟩
def bitsOp (op : BinOp) (k : IntKind) (x y : Int) : Int :=
  let a := BitVec.ofInt k.bits x
  let b := BitVec.ofInt k.bits y
  k.wrap (match op with | .and => (a &&& b).toNat | .or => (a ||| b).toNat | .xor => (a ^^^ b).toNat | _ => (a &&& ~~~b).toNat)
theorem r_and (h1 : ρ s = .int k x) (h2 : ρ t = .int k y) : Runs P ρ ⟨d, .binOp .and T s t T', ty, pos, af, g⟩ w (.ok (.value (.int k (bitsOp .and k x y))) w) :=
  ⟨by simp [execOp, h1, h2, binOp, eqGuard, Op.intBits, bitsOp, pure, bind, Sem.bind, Sem.run]⟩
theorem r_or (h1 : ρ s = .int k x) (h2 : ρ t = .int k y) : Runs P ρ ⟨d, .binOp .or T s t T', ty, pos, af, g⟩ w (.ok (.value (.int k (bitsOp .or k x y))) w) :=
  ⟨by simp [execOp, h1, h2, binOp, eqGuard, Op.intBits, bitsOp, pure, bind, Sem.bind, Sem.run]⟩
theorem r_xor (h1 : ρ s = .int k x) (h2 : ρ t = .int k y) : Runs P ρ ⟨d, .binOp .xor T s t T', ty, pos, af, g⟩ w (.ok (.value (.int k (bitsOp .xor k x y))) w) :=
  ⟨by simp [execOp, h1, h2, binOp, eqGuard, Op.intBits, bitsOp, pure, bind, Sem.bind, Sem.run]⟩
theorem r_andNot (h1 : ρ s = .int k x) (h2 : ρ t = .int k y) : Runs P ρ ⟨d, .binOp .andNot T s t T', ty, pos, af, g⟩ w (.ok (.value (.int k (bitsOp .andNot k x y))) w) :=
  ⟨by simp [execOp, h1, h2, binOp, eqGuard, Op.intBits, bitsOp, pure, bind, Sem.bind, Sem.run]⟩
theorem r_not {b : Bool} (h1 : ρ s = .bool b) : Runs P ρ ⟨d, .unOp .not T s, ty, pos, af, g⟩ w (.ok (.value (.bool (!b))) w) :=
  ⟨by simp [execOp, h1, Op.unary, pure, bind, Sem.bind, Sem.run]⟩
theorem r_neg (h1 : ρ s = .int k x) : Runs P ρ ⟨d, .unOp .neg T s, ty, pos, af, g⟩ w (.ok (.value (.int k (k.wrap (-x)))) w) :=
  ⟨by simp [execOp, h1, Op.unary, Op.intArith, pure, bind, Sem.bind, Sem.run]⟩
theorem r_negN (h1 : ρ s = .int .i64 x) (h0 : -9223372036854775807 ≤ x) (h : x ≤ 9223372036854775807) : Runs P ρ ⟨d, .unOp .neg T s, ty, pos, af, g⟩ w (.ok (.value (.int .i64 (-x))) w) := by
  have := r_neg (P := P) (w := w) (d := d) (ty := ty) (pos := pos) (af := af) (g := g) (T := T) h1; rwa [wrap_in (by omega) (by omega)] at this
theorem r_extract {vs : Array Value} {i : Nat} {v : Value} (h1 : ρ s = .tuple vs) (h2 : vs[i]? = some v) : Runs P ρ ⟨d, .extract s i, ty, pos, af, g⟩ w (.ok (.value v) w) :=
  ⟨by simp [execOp, h1, Instr.extract, h2, pure, bind, Sem.bind, Sem.run]⟩
theorem run_underlying' {u : TypeDesc} (h : P.underlying T = some u) : (underlying T).run P w = .ok u w := by simp [underlying, program, bind, Sem.bind, Sem.run, h, pure]
theorem r_convert {k0 : IntKind} [hS : IsInt P T k0] [hT : IsInt P T' k'] (h1 : ρ s = .int k x) : Runs P ρ ⟨d, .convert T T' s, ty, pos, af, g⟩ w (.ok (.value (.int k' (k'.wrap x))) w) :=
  ⟨by simp [execOp, h1, convert, underlying, program, bind, Sem.bind, Sem.run, hS.out, hT.out, pure, Conv.intToInt]⟩
theorem r_makeFunc {f : Fn} {fi ca : Array Operand} : Runs P ρ ⟨d, .makeFunc f fi ca, ty, pos, af, g⟩ w (.ok (.value (.func f (fi.map ρ) (ca.map ρ))) w) :=
  ⟨by simp [execOp, Instr.makeFunc, pure, bind, Sem.bind, Sem.run]⟩
theorem r_max2 (h1 : ρ s = .int k x) (h2 : ρ t = .int k y) {a b : TypeId} : Runs P ρ ⟨d, .call { callee := .builtin .max, args := #[s, t], argTypes := #[a, b] }, ty, pos, af, g⟩ w (.ok (.value (.int k (max x y))) w) :=
  ⟨by
    have e : (if y > x then y else x) = max x y := by rw [Int.max_def]; split <;> split <;> omega
    simp [execOp, resolve, invoke, builtin, Builtin.max_, Builtin.max2, h1, h2, pure, bind, Sem.bind, Sem.run, e, List.foldlM]⟩
theorem r_min2 (h1 : ρ s = .int k x) (h2 : ρ t = .int k y) {a b : TypeId} : Runs P ρ ⟨d, .call { callee := .builtin .min, args := #[s, t], argTypes := #[a, b] }, ty, pos, af, g⟩ w (.ok (.value (.int k (min x y))) w) :=
  ⟨by
    have e : (if y < x then y else x) = min x y := by rw [Int.min_def]; split <;> split <;> omega
    simp [execOp, resolve, invoke, builtin, Builtin.min_, Builtin.min2, h1, h2, pure, bind, Sem.bind, Sem.run, e, List.foldlM]⟩
theorem r_lenSlice {e : TypeId} {A : Option Addr} {n c : Nat} [hT : IsSlice P T e] (h1 : ρ s = .slice A n c) : Runs P ρ ⟨d, .call { callee := .builtin .len, args := #[s], argTypes := #[T] }, ty, pos, af, g⟩ w (.ok (.value (.int .i64 n)) w) :=
  ⟨by simp [execOp, resolve, invoke, builtin, Builtin.len_, h1, underlying, program, hT.out, goInt, pure, bind, Sem.bind, Sem.run]⟩
theorem r_lenString {b : ByteArray} [hT : IsStr P T] (h1 : ρ s = .string b) : Runs P ρ ⟨d, .call { callee := .builtin .len, args := #[s], argTypes := #[T] }, ty, pos, af, g⟩ w (.ok (.value (.int .i64 b.size)) w) :=
  ⟨by simp [execOp, resolve, invoke, builtin, Builtin.len_, h1, underlying, program, hT.out, goInt, pure, bind, Sem.bind, Sem.run]⟩


/-- The function numbered f has a body. -/
class Enters (P : Program) (f : FuncId) : Prop where out : ∀ args w, (callFunc f args).run P w = .ok (.enter f args) w

theorem r_call0 {f : FuncId} {fo : Operand} {cl : List Value} {ats : Array TypeId} (hf : ρ fo = .func (.func f) #[] cl.toArray) [he : Enters P f]  :
    Runs P ρ ⟨d, .call { callee := .value fo, args := #[], argTypes := ats }, ty, pos, af, g⟩ w (.ok (.enter f (cl).toArray) w) :=
  ⟨by
    have e := he.out (cl).toArray w
    simp only [execOp, resolve, hf, Deferred.ofValue, List.map_toArray, List.map_cons, List.map_nil, hf] at *
    simpa [invoke, bind, Sem.bind, pure] using e⟩
theorem r_call1 {f : FuncId} {fo : Operand} {a0 : Operand} {v0 : Value} {cl : List Value} {ats : Array TypeId} (hf : ρ fo = .func (.func f) #[] cl.toArray) [he : Enters P f] (h0 : ρ a0 = v0) :
    Runs P ρ ⟨d, .call { callee := .value fo, args := #[a0], argTypes := ats }, ty, pos, af, g⟩ w (.ok (.enter f (v0 :: cl).toArray) w) :=
  ⟨by
    have e := he.out (v0 :: cl).toArray w
    simp only [execOp, resolve, hf, Deferred.ofValue, List.map_toArray, List.map_cons, List.map_nil, h0] at *
    simpa [invoke, bind, Sem.bind, pure] using e⟩
theorem r_call2 {f : FuncId} {fo : Operand} {a0 a1 : Operand} {v0 v1 : Value} {cl : List Value} {ats : Array TypeId} (hf : ρ fo = .func (.func f) #[] cl.toArray) [he : Enters P f] (h0 : ρ a0 = v0) (h1 : ρ a1 = v1) :
    Runs P ρ ⟨d, .call { callee := .value fo, args := #[a0, a1], argTypes := ats }, ty, pos, af, g⟩ w (.ok (.enter f (v0 :: v1 :: cl).toArray) w) :=
  ⟨by
    have e := he.out (v0 :: v1 :: cl).toArray w
    simp only [execOp, resolve, hf, Deferred.ofValue, List.map_toArray, List.map_cons, List.map_nil, h0, h1] at *
    simpa [invoke, bind, Sem.bind, pure] using e⟩
theorem r_call3 {f : FuncId} {fo : Operand} {a0 a1 a2 : Operand} {v0 v1 v2 : Value} {cl : List Value} {ats : Array TypeId} (hf : ρ fo = .func (.func f) #[] cl.toArray) [he : Enters P f] (h0 : ρ a0 = v0) (h1 : ρ a1 = v1) (h2 : ρ a2 = v2) :
    Runs P ρ ⟨d, .call { callee := .value fo, args := #[a0, a1, a2], argTypes := ats }, ty, pos, af, g⟩ w (.ok (.enter f (v0 :: v1 :: v2 :: cl).toArray) w) :=
  ⟨by
    have e := he.out (v0 :: v1 :: v2 :: cl).toArray w
    simp only [execOp, resolve, hf, Deferred.ofValue, List.map_toArray, List.map_cons, List.map_nil, h0, h1, h2] at *
    simpa [invoke, bind, Sem.bind, pure] using e⟩
theorem r_call4 {f : FuncId} {fo : Operand} {a0 a1 a2 a3 : Operand} {v0 v1 v2 v3 : Value} {cl : List Value} {ats : Array TypeId} (hf : ρ fo = .func (.func f) #[] cl.toArray) [he : Enters P f] (h0 : ρ a0 = v0) (h1 : ρ a1 = v1) (h2 : ρ a2 = v2) (h3 : ρ a3 = v3) :
    Runs P ρ ⟨d, .call { callee := .value fo, args := #[a0, a1, a2, a3], argTypes := ats }, ty, pos, af, g⟩ w (.ok (.enter f (v0 :: v1 :: v2 :: v3 :: cl).toArray) w) :=
  ⟨by
    have e := he.out (v0 :: v1 :: v2 :: v3 :: cl).toArray w
    simp only [execOp, resolve, hf, Deferred.ofValue, List.map_toArray, List.map_cons, List.map_nil, h0, h1, h2, h3] at *
    simpa [invoke, bind, Sem.bind, pure] using e⟩
theorem r_call5 {f : FuncId} {fo : Operand} {a0 a1 a2 a3 a4 : Operand} {v0 v1 v2 v3 v4 : Value} {cl : List Value} {ats : Array TypeId} (hf : ρ fo = .func (.func f) #[] cl.toArray) [he : Enters P f] (h0 : ρ a0 = v0) (h1 : ρ a1 = v1) (h2 : ρ a2 = v2) (h3 : ρ a3 = v3) (h4 : ρ a4 = v4) :
    Runs P ρ ⟨d, .call { callee := .value fo, args := #[a0, a1, a2, a3, a4], argTypes := ats }, ty, pos, af, g⟩ w (.ok (.enter f (v0 :: v1 :: v2 :: v3 :: v4 :: cl).toArray) w) :=
  ⟨by
    have e := he.out (v0 :: v1 :: v2 :: v3 :: v4 :: cl).toArray w
    simp only [execOp, resolve, hf, Deferred.ofValue, List.map_toArray, List.map_cons, List.map_nil, h0, h1, h2, h3, h4] at *
    simpa [invoke, bind, Sem.bind, pure] using e⟩
theorem r_call6 {f : FuncId} {fo : Operand} {a0 a1 a2 a3 a4 a5 : Operand} {v0 v1 v2 v3 v4 v5 : Value} {cl : List Value} {ats : Array TypeId} (hf : ρ fo = .func (.func f) #[] cl.toArray) [he : Enters P f] (h0 : ρ a0 = v0) (h1 : ρ a1 = v1) (h2 : ρ a2 = v2) (h3 : ρ a3 = v3) (h4 : ρ a4 = v4) (h5 : ρ a5 = v5) :
    Runs P ρ ⟨d, .call { callee := .value fo, args := #[a0, a1, a2, a3, a4, a5], argTypes := ats }, ty, pos, af, g⟩ w (.ok (.enter f (v0 :: v1 :: v2 :: v3 :: v4 :: v5 :: cl).toArray) w) :=
  ⟨by
    have e := he.out (v0 :: v1 :: v2 :: v3 :: v4 :: v5 :: cl).toArray w
    simp only [execOp, resolve, hf, Deferred.ofValue, List.map_toArray, List.map_cons, List.map_nil, h0, h1, h2, h3, h4, h5] at *
    simpa [invoke, bind, Sem.bind, pure] using e⟩
theorem r_call7 {f : FuncId} {fo : Operand} {a0 a1 a2 a3 a4 a5 a6 : Operand} {v0 v1 v2 v3 v4 v5 v6 : Value} {cl : List Value} {ats : Array TypeId} (hf : ρ fo = .func (.func f) #[] cl.toArray) [he : Enters P f] (h0 : ρ a0 = v0) (h1 : ρ a1 = v1) (h2 : ρ a2 = v2) (h3 : ρ a3 = v3) (h4 : ρ a4 = v4) (h5 : ρ a5 = v5) (h6 : ρ a6 = v6) :
    Runs P ρ ⟨d, .call { callee := .value fo, args := #[a0, a1, a2, a3, a4, a5, a6], argTypes := ats }, ty, pos, af, g⟩ w (.ok (.enter f (v0 :: v1 :: v2 :: v3 :: v4 :: v5 :: v6 :: cl).toArray) w) :=
  ⟨by
    have e := he.out (v0 :: v1 :: v2 :: v3 :: v4 :: v5 :: v6 :: cl).toArray w
    simp only [execOp, resolve, hf, Deferred.ofValue, List.map_toArray, List.map_cons, List.map_nil, h0, h1, h2, h3, h4, h5, h6] at *
    simpa [invoke, bind, Sem.bind, pure] using e⟩
theorem r_call8 {f : FuncId} {fo : Operand} {a0 a1 a2 a3 a4 a5 a6 a7 : Operand} {v0 v1 v2 v3 v4 v5 v6 v7 : Value} {cl : List Value} {ats : Array TypeId} (hf : ρ fo = .func (.func f) #[] cl.toArray) [he : Enters P f] (h0 : ρ a0 = v0) (h1 : ρ a1 = v1) (h2 : ρ a2 = v2) (h3 : ρ a3 = v3) (h4 : ρ a4 = v4) (h5 : ρ a5 = v5) (h6 : ρ a6 = v6) (h7 : ρ a7 = v7) :
    Runs P ρ ⟨d, .call { callee := .value fo, args := #[a0, a1, a2, a3, a4, a5, a6, a7], argTypes := ats }, ty, pos, af, g⟩ w (.ok (.enter f (v0 :: v1 :: v2 :: v3 :: v4 :: v5 :: v6 :: v7 :: cl).toArray) w) :=
  ⟨by
    have e := he.out (v0 :: v1 :: v2 :: v3 :: v4 :: v5 :: v6 :: v7 :: cl).toArray w
    simp only [execOp, resolve, hf, Deferred.ofValue, List.map_toArray, List.map_cons, List.map_nil, h0, h1, h2, h3, h4, h5, h6, h7] at *
    simpa [invoke, bind, Sem.bind, pure] using e⟩
end

end Go.Gx
