import Derived.Test.YtaoicaldhllbfaaAC
namespace Go.Proofs.Ytaoicaldhllbfaa
open Go Go.Gx Go.RowKit
set_option linter.unusedVariables false
set_option linter.unusedSimpArgs false

theorem leaseMatches_row {vr vs : Value} {raw : List GRequest} {s : Stry} {xa xb xc xd xe xf : Int} {some_ : List GLease} {local_ hub own length : Int} {w0 : World} (hr : Rd fGRequest.ty w0 vr raw) (hrl : raw.length ≤ maxLen) (hs : s.ok w0)
    (x0 : inI xa) (x1 : inI xb) (x2 : inI xc) (x3 : inI xd) (x4 : inI xe) (x5 : inI xf) (ho : Rd fGLease.ty w0 vs some_) (hol : some_.length ≤ maxLen) (i0 : inI local_) (i1 : inI hub) (i2 : inI own) (i3 : inI length) :
    CallsV Try.prog 3 #[vr, .agg s.enc.toArray, .agg [.int .i64 xa, .int .i64 xb, .int .i64 xc, .int .i64 xd, .int .i64 xe, .int .i64 xf].toArray, vs, .int .i64 local_, .int .i64 hub, .int .i64 own, .int .i64 length] w0 (.bool true) :=
  leaseMatches_spec (x := ⟨xa, xb, xc, xd, xe, xf⟩) hr hrl hs x0 x2 x5 ho hol i0 i1 i2 i3
end Go.Proofs.Ytaoicaldhllbfaa
