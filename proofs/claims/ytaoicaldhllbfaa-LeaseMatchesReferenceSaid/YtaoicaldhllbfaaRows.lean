/-
  No cell of these rows narrows 'for every input' (looked for: loops, veiled, ifaces, maps, wideKeys, modest, calm, conditions, laid).
  DERIVED. THE GIVEN ROWS OF THIS SEAT. 7 by the template 'for every input the law returns true; each argument reads behind the call as it read before'; 0 by the template 'total and deterministic' (their statements: YtaoicaldhllbfaaTotals.lean).
  GIVEN WITH THE SEED: the statements are not yours to turn. If you find one false, say at which input.
  Laid BY PROGRAM, IN A SANDBOX (cutbox-rows.mjs): the forced cells as the released guide's own fill.sh prints them over the translation f539f4fec8d5b995… (all of the seat's roots in one cut). By AI agents, Wed Nov 11 2026. No macro, syntax, notation, axiom, sorry.
-/
import Derived.Test.YtaoicaldhllbfaaChecked
import GoSem.Claim
import GoSem.ClaimJoined
import GoSem.ClaimMapViews
import Derived.JoinedTies
import Derived.KernelRfl
namespace Go.Proofs.Ytaoicaldhllbfaa
/- THE CELL 'sum', in the pinned program and in every row, IS THE sha256 OF THE DUMP (.gsa) THAT YtaoicaldhllbfaaProg.lean LOADS. Nothing in Lean hashes anything: it is a label: what it is worth is what the hold of that sum in a sandbox is worth. -/
noncomputable def Try.pinned : Pinned := { name := "ytaoicaldhllbfaa", sum := "f539f4fec8d5b9957340f8bbabe214070585d61067087cc466b513845796fb18", checked := Try.checked }
namespace Rows
def none {H : Type} : Left H := { results := [], args := [] }

/-- 'airchecklaw30.LeaseMatchesReference': WHATEVER THE INPUT: true; the input reads as it did. -/
def leaseMatchesReferenceSpec : ChangeSpec := { name := "leaseMatchesReference", fn := fun _ => fun
  | [d1, d2, d3, d4, d5, d6, d7, d8] => { results := [.lit (.bool true)], args := [d1, d2, d3, d4, d5, d6, d7, d8] }
  | _ => none }
def leaseMatchesReferenceRow : OpenClaim := { program := "ytaoicaldhllbfaa", sum := "f539f4fec8d5b9957340f8bbabe214070585d61067087cc466b513845796fb18", func := "aircheck/airchecklaw30.LeaseMatchesReference", spec := "leaseMatchesReference", unfollowed := true, recurses := true, apart := false }
def LeaseMatchesReferenceSaid : Prop := leaseMatchesReferenceRow.holds Try.pinned (OpenSpec.ofChange leaseMatchesReferenceSpec)

/-- ITS FALSE NEIGHBOUR: 'it returns false'. Refute it at one input. -/
def leaseMatchesReferenceWrong : ChangeSpec := { name := "leaseMatchesReference", fn := fun _ => fun
  | [d1, d2, d3, d4, d5, d6, d7, d8] => { results := [.lit (.bool false)], args := [d1, d2, d3, d4, d5, d6, d7, d8] }
  | _ => none }
def LeaseMatchesReferenceWrongFalsely : Prop := leaseMatchesReferenceRow.holds Try.pinned (OpenSpec.ofChange leaseMatchesReferenceWrong)

/-- 'airchecklaw30.LeaseExcludes': WHATEVER THE INPUT: true; the input reads as it did. -/
def leaseExcludesSpec : ChangeSpec := { name := "leaseExcludes", fn := fun _ => fun
  | [d1, d2] => { results := [.lit (.bool true)], args := [d1, d2] }
  | _ => none }
def leaseExcludesRow : OpenClaim := { program := "ytaoicaldhllbfaa", sum := "f539f4fec8d5b9957340f8bbabe214070585d61067087cc466b513845796fb18", func := "aircheck/airchecklaw30.LeaseExcludes", spec := "leaseExcludes", unfollowed := true, recurses := true, apart := false }
def LeaseExcludesSaid : Prop := leaseExcludesRow.holds Try.pinned (OpenSpec.ofChange leaseExcludesSpec)

/-- ITS FALSE NEIGHBOUR: 'it returns false'. Refute it at one input. -/
def leaseExcludesWrong : ChangeSpec := { name := "leaseExcludes", fn := fun _ => fun
  | [d1, d2] => { results := [.lit (.bool false)], args := [d1, d2] }
  | _ => none }
def LeaseExcludesWrongFalsely : Prop := leaseExcludesRow.holds Try.pinned (OpenSpec.ofChange leaseExcludesWrong)

/-- 'airchecklaw30.LeaseOvers': WHATEVER THE INPUT: true; the input reads as it did. -/
def leaseOversSpec : ChangeSpec := { name := "leaseOvers", fn := fun _ => fun
  | [d1, d2, d3] => { results := [.lit (.bool true)], args := [d1, d2, d3] }
  | _ => none }
def leaseOversRow : OpenClaim := { program := "ytaoicaldhllbfaa", sum := "f539f4fec8d5b9957340f8bbabe214070585d61067087cc466b513845796fb18", func := "aircheck/airchecklaw30.LeaseOvers", spec := "leaseOvers", unfollowed := true, recurses := true, apart := false }
def LeaseOversSaid : Prop := leaseOversRow.holds Try.pinned (OpenSpec.ofChange leaseOversSpec)

/-- ITS FALSE NEIGHBOUR: 'it returns false'. Refute it at one input. -/
def leaseOversWrong : ChangeSpec := { name := "leaseOvers", fn := fun _ => fun
  | [d1, d2, d3] => { results := [.lit (.bool false)], args := [d1, d2, d3] }
  | _ => none }
def LeaseOversWrongFalsely : Prop := leaseOversRow.holds Try.pinned (OpenSpec.ofChange leaseOversWrong)

/-- 'airchecklaw30.LeaseReaches': WHATEVER THE INPUT: true; the input reads as it did. -/
def leaseReachesSpec : ChangeSpec := { name := "leaseReaches", fn := fun _ => fun
  | [d1, d2] => { results := [.lit (.bool true)], args := [d1, d2] }
  | _ => none }
def leaseReachesRow : OpenClaim := { program := "ytaoicaldhllbfaa", sum := "f539f4fec8d5b9957340f8bbabe214070585d61067087cc466b513845796fb18", func := "aircheck/airchecklaw30.LeaseReaches", spec := "leaseReaches", unfollowed := true, recurses := true, apart := false }
def LeaseReachesSaid : Prop := leaseReachesRow.holds Try.pinned (OpenSpec.ofChange leaseReachesSpec)

/-- ITS FALSE NEIGHBOUR: 'it returns false'. Refute it at one input. -/
def leaseReachesWrong : ChangeSpec := { name := "leaseReaches", fn := fun _ => fun
  | [d1, d2] => { results := [.lit (.bool false)], args := [d1, d2] }
  | _ => none }
def LeaseReachesWrongFalsely : Prop := leaseReachesRow.holds Try.pinned (OpenSpec.ofChange leaseReachesWrong)

/-- 'airchecklaw30.LeaseEpochs': WHATEVER THE INPUT: true; the input reads as it did. -/
def leaseEpochsSpec : ChangeSpec := { name := "leaseEpochs", fn := fun _ => fun
  | [d] => { results := [.lit (.bool true)], args := [d] }
  | _ => none }
def leaseEpochsRow : OpenClaim := { program := "ytaoicaldhllbfaa", sum := "f539f4fec8d5b9957340f8bbabe214070585d61067087cc466b513845796fb18", func := "aircheck/airchecklaw30.LeaseEpochs", spec := "leaseEpochs", unfollowed := true, recurses := true, apart := false }
def LeaseEpochsSaid : Prop := leaseEpochsRow.holds Try.pinned (OpenSpec.ofChange leaseEpochsSpec)

/-- ITS FALSE NEIGHBOUR: 'it returns false'. Refute it at one input. -/
def leaseEpochsWrong : ChangeSpec := { name := "leaseEpochs", fn := fun _ => fun
  | [d] => { results := [.lit (.bool false)], args := [d] }
  | _ => none }
def LeaseEpochsWrongFalsely : Prop := leaseEpochsRow.holds Try.pinned (OpenSpec.ofChange leaseEpochsWrong)

/-- 'airchecklaw30.LeaseKeeps': WHATEVER THE INPUT: true; the input reads as it did. -/
def leaseKeepsSpec : ChangeSpec := { name := "leaseKeeps", fn := fun _ => fun
  | [d1, d2, d3] => { results := [.lit (.bool true)], args := [d1, d2, d3] }
  | _ => none }
def leaseKeepsRow : OpenClaim := { program := "ytaoicaldhllbfaa", sum := "f539f4fec8d5b9957340f8bbabe214070585d61067087cc466b513845796fb18", func := "aircheck/airchecklaw30.LeaseKeeps", spec := "leaseKeeps", unfollowed := true, recurses := true, apart := false }
def LeaseKeepsSaid : Prop := leaseKeepsRow.holds Try.pinned (OpenSpec.ofChange leaseKeepsSpec)

/-- ITS FALSE NEIGHBOUR: 'it returns false'. Refute it at one input. -/
def leaseKeepsWrong : ChangeSpec := { name := "leaseKeeps", fn := fun _ => fun
  | [d1, d2, d3] => { results := [.lit (.bool false)], args := [d1, d2, d3] }
  | _ => none }
def LeaseKeepsWrongFalsely : Prop := leaseKeepsRow.holds Try.pinned (OpenSpec.ofChange leaseKeepsWrong)

/-- 'airchecklaw30.LeaseSafe': WHATEVER THE INPUT: true; the input reads as it did. -/
def leaseSafeSpec : ChangeSpec := { name := "leaseSafe", fn := fun _ => fun
  | [d1, d2, d3, d4, d5, d6] => { results := [.lit (.bool true)], args := [d1, d2, d3, d4, d5, d6] }
  | _ => none }
def leaseSafeRow : OpenClaim := { program := "ytaoicaldhllbfaa", sum := "f539f4fec8d5b9957340f8bbabe214070585d61067087cc466b513845796fb18", func := "aircheck/airchecklaw30.LeaseSafe", spec := "leaseSafe", unfollowed := true, recurses := true, apart := false }
def LeaseSafeSaid : Prop := leaseSafeRow.holds Try.pinned (OpenSpec.ofChange leaseSafeSpec)

/-- ITS FALSE NEIGHBOUR: 'it returns false'. Refute it at one input. -/
def leaseSafeWrong : ChangeSpec := { name := "leaseSafe", fn := fun _ => fun
  | [d1, d2, d3, d4, d5, d6] => { results := [.lit (.bool false)], args := [d1, d2, d3, d4, d5, d6] }
  | _ => none }
def LeaseSafeWrongFalsely : Prop := leaseSafeRow.holds Try.pinned (OpenSpec.ofChange leaseSafeWrong)

/- THE SECOND FORM. 'bulk': how many values and letters a reading holds, each counted each time it is reached (what is shared counts as often as it is met; a slice's spare places count too). A statement '..UptoSaid' is the law's where the arguments, and the package variables that the reading takes, are together of bulk at most 1048576: NARROWER than '..Said'. Prove '..Said' where nothing that the law and all that it calls make is longer than what came in: it says more and counts as full. Else prove '..UptoSaid'. A law counts once. -/
mutual
def uptoBulk {H : Type} : DataW H → Nat
  | .lit (.string bytes) => bytes.length + 1
  | .lit _ => 1
  | .nil => 1
  | .ptr d => uptoBulk d + 1
  | .slice elems spare => uptoBulkAll elems + uptoBulkAll spare + 1
  | .agg parts => uptoBulkAll parts + 1
  | .iface _ d => uptoBulk d + 1
  | .map entries => uptoBulkEntries entries + 1
  | .held _ => 1
def uptoBulkAll {H : Type} : List (DataW H) → Nat
  | [] => 0
  | d :: r => uptoBulk d + uptoBulkAll r
def uptoBulkEntries {H : Type} : List (Lit × DataW H) → Nat
  | [] => 0
  | x :: r => uptoBulkEntry x + uptoBulkEntries r
def uptoBulkEntry {H : Type} : Lit × DataW H → Nat
  | (.string bytes, d) => bytes.length + uptoBulk d + 1
  | (_, d) => uptoBulk d + 1
 end
def uptoSmall : (H : Type) → List (DataW H) → Bool := fun _ ds => decide (uptoBulkAll ds ≤ 1048576)
def OpenSpec.upto (s : _root_.Go.ChangeSpec) : _root_.Go.OpenSpec := { _root_.Go.OpenSpec.ofChange s with cond := some uptoSmall }

/-- 'airchecklaw30.LeaseMatchesReference', WHERE WHAT IT READS IS OF BULK AT MOST 1048576: true; the input reads as it did. -/
def leaseMatchesReferenceUptoRow : OpenClaim := { program := "ytaoicaldhllbfaa", sum := "f539f4fec8d5b9957340f8bbabe214070585d61067087cc466b513845796fb18", func := "aircheck/airchecklaw30.LeaseMatchesReference", spec := "leaseMatchesReference", unfollowed := true, recurses := true, apart := false, narrowed := true }
def LeaseMatchesReferenceUptoSaid : Prop := leaseMatchesReferenceUptoRow.holds Try.pinned (OpenSpec.upto leaseMatchesReferenceSpec)

/-- 'airchecklaw30.LeaseExcludes', WHERE WHAT IT READS IS OF BULK AT MOST 1048576: true; the input reads as it did. -/
def leaseExcludesUptoRow : OpenClaim := { program := "ytaoicaldhllbfaa", sum := "f539f4fec8d5b9957340f8bbabe214070585d61067087cc466b513845796fb18", func := "aircheck/airchecklaw30.LeaseExcludes", spec := "leaseExcludes", unfollowed := true, recurses := true, apart := false, narrowed := true }
def LeaseExcludesUptoSaid : Prop := leaseExcludesUptoRow.holds Try.pinned (OpenSpec.upto leaseExcludesSpec)

/-- 'airchecklaw30.LeaseOvers', WHERE WHAT IT READS IS OF BULK AT MOST 1048576: true; the input reads as it did. -/
def leaseOversUptoRow : OpenClaim := { program := "ytaoicaldhllbfaa", sum := "f539f4fec8d5b9957340f8bbabe214070585d61067087cc466b513845796fb18", func := "aircheck/airchecklaw30.LeaseOvers", spec := "leaseOvers", unfollowed := true, recurses := true, apart := false, narrowed := true }
def LeaseOversUptoSaid : Prop := leaseOversUptoRow.holds Try.pinned (OpenSpec.upto leaseOversSpec)

/-- 'airchecklaw30.LeaseReaches', WHERE WHAT IT READS IS OF BULK AT MOST 1048576: true; the input reads as it did. -/
def leaseReachesUptoRow : OpenClaim := { program := "ytaoicaldhllbfaa", sum := "f539f4fec8d5b9957340f8bbabe214070585d61067087cc466b513845796fb18", func := "aircheck/airchecklaw30.LeaseReaches", spec := "leaseReaches", unfollowed := true, recurses := true, apart := false, narrowed := true }
def LeaseReachesUptoSaid : Prop := leaseReachesUptoRow.holds Try.pinned (OpenSpec.upto leaseReachesSpec)

/-- 'airchecklaw30.LeaseEpochs', WHERE WHAT IT READS IS OF BULK AT MOST 1048576: true; the input reads as it did. -/
def leaseEpochsUptoRow : OpenClaim := { program := "ytaoicaldhllbfaa", sum := "f539f4fec8d5b9957340f8bbabe214070585d61067087cc466b513845796fb18", func := "aircheck/airchecklaw30.LeaseEpochs", spec := "leaseEpochs", unfollowed := true, recurses := true, apart := false, narrowed := true }
def LeaseEpochsUptoSaid : Prop := leaseEpochsUptoRow.holds Try.pinned (OpenSpec.upto leaseEpochsSpec)

/-- 'airchecklaw30.LeaseKeeps', WHERE WHAT IT READS IS OF BULK AT MOST 1048576: true; the input reads as it did. -/
def leaseKeepsUptoRow : OpenClaim := { program := "ytaoicaldhllbfaa", sum := "f539f4fec8d5b9957340f8bbabe214070585d61067087cc466b513845796fb18", func := "aircheck/airchecklaw30.LeaseKeeps", spec := "leaseKeeps", unfollowed := true, recurses := true, apart := false, narrowed := true }
def LeaseKeepsUptoSaid : Prop := leaseKeepsUptoRow.holds Try.pinned (OpenSpec.upto leaseKeepsSpec)

/-- 'airchecklaw30.LeaseSafe', WHERE WHAT IT READS IS OF BULK AT MOST 1048576: true; the input reads as it did. -/
def leaseSafeUptoRow : OpenClaim := { program := "ytaoicaldhllbfaa", sum := "f539f4fec8d5b9957340f8bbabe214070585d61067087cc466b513845796fb18", func := "aircheck/airchecklaw30.LeaseSafe", spec := "leaseSafe", unfollowed := true, recurses := true, apart := false, narrowed := true }
def LeaseSafeUptoSaid : Prop := leaseSafeUptoRow.holds Try.pinned (OpenSpec.upto leaseSafeSpec)

end Rows
end Go.Proofs.Ytaoicaldhllbfaa
