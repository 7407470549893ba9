/-
  NARROWER THAN 'FOR EVERY INPUT', by the rows' own cells (each row's printed sentence says how): BillMatchesReference: laid · BillDelivers: laid · BillShares: laid · BillRoyalties: laid · BillSettles: laid · BillFollows: laid · BillKeeps: laid.
  DERIVED. THE GIVEN ROWS OF THIS SEAT. 7 by the template 'for every input the law returns true; each argument reads behind the call as it read before'; 0 by the template 'total and deterministic' (their statements: YtijnbpnficcpmaaDoorTotals.lean).
  GIVEN WITH THE SEED: the statements are not yours to turn. If you find one false, say at which input.
  Laid BY PROGRAM, IN A SANDBOX (cutbox-rows.mjs): the forced cells as the released guide's own fill.sh prints them over the translation f42f7bfd5cd5cc75… (all of the seat's roots in one cut). By AI agents, Wed Nov 11 2026. No macro, syntax, notation, axiom, sorry.
-/
import Derived.Test.YtijnbpnficcpmaaDoorChecked
import GoSem.Claim
import GoSem.ClaimJoined
import GoSem.ClaimMapViews
import Derived.JoinedTies
import Derived.KernelRfl
namespace Go.Proofs.YtijnbpnficcpmaaDoor
/- THE CELL 'sum', in the pinned program and in every row, IS THE sha256 OF THE DUMP (.gsa) THAT YtijnbpnficcpmaaDoorProg.lean LOADS. Nothing in Lean hashes anything: it is a label: what it is worth is what the hold of that sum in a sandbox is worth. -/
noncomputable def Tryd.pinned : Pinned := { name := "ytijnbpnficcpmaadoor", sum := "f42f7bfd5cd5cc7557c38280d5de383a9a189d27bcff24a73712b2cd7ae6c4ee", checked := Tryd.checked }
namespace Rows
def none {H : Type} : Left H := { results := [], args := [] }

/- WHAT THE LISTED PACKAGE-LEVEL VARIABLES READ AS WHEN THE CALL BEGINS. Each datum BY PROGRAM (the guide's laid-datum.mjs) off the statement by which the dump's own 'gosem.cut.vars' lays the variable. In a bare row this is a premise. The card (YtijnbpnficcpmaaDoorCards.lean) ties it to the program's text. -/
def laid_aircheck_contract_tests {H : Type} : DataW H := .iface "func table" (.agg [.nil, .nil, .iface "func" (.lit (.string [97, 105, 114, 99, 104, 101, 99, 107, 47, 99, 111, 110, 116, 114, 97, 99, 116, 46, 116, 101, 115, 116, 115, 36, 49])), .iface "func" (.lit (.string [97, 105, 114, 99, 104, 101, 99, 107, 47, 99, 111, 110, 116, 114, 97, 99, 116, 46, 116, 101, 115, 116, 115, 36, 50])), .iface "func" (.lit (.string [97, 105, 114, 99, 104, 101, 99, 107, 47, 99, 111, 110, 116, 114, 97, 99, 116, 46, 116, 101, 115, 116, 115, 36, 51])), .iface "func" (.lit (.string [97, 105, 114, 99, 104, 101, 99, 107, 47, 99, 111, 110, 116, 114, 97, 99, 116, 46, 116, 101, 115, 116, 115, 36, 52])), .iface "func" (.lit (.string [97, 105, 114, 99, 104, 101, 99, 107, 47, 99, 111, 110, 116, 114, 97, 99, 116, 46, 116, 101, 115, 116, 115, 36, 53])), .iface "func" (.lit (.string [97, 105, 114, 99, 104, 101, 99, 107, 47, 99, 111, 110, 116, 114, 97, 99, 116, 46, 116, 101, 115, 116, 115, 36, 54]))])

/-- 'airchecklaw39.BillMatchesReference': WHATEVER THE INPUT: true; the input reads as it did. -/
def billMatchesReferenceSpec : ChangeSpec := { name := "billMatchesReference", fn := fun _ => fun
  | [d1, d2, d3, d4, d5, d6, d7, d8, d9, d10] => { results := [.lit (.bool true)], args := [d1, d2, d3, d4, d5, d6, d7, d8, d9, d10] }
  | _ => none }
def billMatchesReferenceRow : OpenClaim := { program := "ytijnbpnficcpmaadoor", sum := "f42f7bfd5cd5cc7557c38280d5de383a9a189d27bcff24a73712b2cd7ae6c4ee", func := "aircheck/airchecklaw39.BillMatchesReference", spec := "billMatchesReference", unfollowed := true, recurses := true, named := ["aircheck/contract.tests"], plainKeys := false, apart := false, laid := [("aircheck/contract.tests", laid_aircheck_contract_tests)] }
def BillMatchesReferenceSaid : Prop := billMatchesReferenceRow.holds Tryd.pinned (OpenSpec.ofChange billMatchesReferenceSpec)

/-- ITS FALSE NEIGHBOUR: 'it returns false'. Refute it at one input. -/
def billMatchesReferenceWrong : ChangeSpec := { name := "billMatchesReference", fn := fun _ => fun
  | [d1, d2, d3, d4, d5, d6, d7, d8, d9, d10] => { results := [.lit (.bool false)], args := [d1, d2, d3, d4, d5, d6, d7, d8, d9, d10] }
  | _ => none }
def BillMatchesReferenceWrongFalsely : Prop := billMatchesReferenceRow.holds Tryd.pinned (OpenSpec.ofChange billMatchesReferenceWrong)

/-- 'airchecklaw39.BillDelivers': WHATEVER THE INPUT: true; the input reads as it did. -/
def billDeliversSpec : ChangeSpec := { name := "billDelivers", fn := fun _ => fun
  | [d1, d2, d3, d4, d5, d6] => { results := [.lit (.bool true)], args := [d1, d2, d3, d4, d5, d6] }
  | _ => none }
def billDeliversRow : OpenClaim := { program := "ytijnbpnficcpmaadoor", sum := "f42f7bfd5cd5cc7557c38280d5de383a9a189d27bcff24a73712b2cd7ae6c4ee", func := "aircheck/airchecklaw39.BillDelivers", spec := "billDelivers", unfollowed := true, recurses := true, named := ["aircheck/contract.tests"], plainKeys := false, apart := false, laid := [("aircheck/contract.tests", laid_aircheck_contract_tests)] }
def BillDeliversSaid : Prop := billDeliversRow.holds Tryd.pinned (OpenSpec.ofChange billDeliversSpec)

/-- ITS FALSE NEIGHBOUR: 'it returns false'. Refute it at one input. -/
def billDeliversWrong : ChangeSpec := { name := "billDelivers", fn := fun _ => fun
  | [d1, d2, d3, d4, d5, d6] => { results := [.lit (.bool false)], args := [d1, d2, d3, d4, d5, d6] }
  | _ => none }
def BillDeliversWrongFalsely : Prop := billDeliversRow.holds Tryd.pinned (OpenSpec.ofChange billDeliversWrong)

/-- 'airchecklaw39.BillShares': WHATEVER THE INPUT: true; the input reads as it did. -/
def billSharesSpec : ChangeSpec := { name := "billShares", fn := fun _ => fun
  | [d1, d2] => { results := [.lit (.bool true)], args := [d1, d2] }
  | _ => none }
def billSharesRow : OpenClaim := { program := "ytijnbpnficcpmaadoor", sum := "f42f7bfd5cd5cc7557c38280d5de383a9a189d27bcff24a73712b2cd7ae6c4ee", func := "aircheck/airchecklaw39.BillShares", spec := "billShares", unfollowed := true, recurses := true, named := ["aircheck/contract.tests"], plainKeys := false, apart := false, laid := [("aircheck/contract.tests", laid_aircheck_contract_tests)] }
def BillSharesSaid : Prop := billSharesRow.holds Tryd.pinned (OpenSpec.ofChange billSharesSpec)

/-- ITS FALSE NEIGHBOUR: 'it returns false'. Refute it at one input. -/
def billSharesWrong : ChangeSpec := { name := "billShares", fn := fun _ => fun
  | [d1, d2] => { results := [.lit (.bool false)], args := [d1, d2] }
  | _ => none }
def BillSharesWrongFalsely : Prop := billSharesRow.holds Tryd.pinned (OpenSpec.ofChange billSharesWrong)

/-- 'airchecklaw39.BillRoyalties': WHATEVER THE INPUT: true; the input reads as it did. -/
def billRoyaltiesSpec : ChangeSpec := { name := "billRoyalties", fn := fun _ => fun
  | [d1, d2, d3, d4, d5] => { results := [.lit (.bool true)], args := [d1, d2, d3, d4, d5] }
  | _ => none }
def billRoyaltiesRow : OpenClaim := { program := "ytijnbpnficcpmaadoor", sum := "f42f7bfd5cd5cc7557c38280d5de383a9a189d27bcff24a73712b2cd7ae6c4ee", func := "aircheck/airchecklaw39.BillRoyalties", spec := "billRoyalties", unfollowed := true, recurses := true, named := ["aircheck/contract.tests"], plainKeys := false, apart := false, laid := [("aircheck/contract.tests", laid_aircheck_contract_tests)] }
def BillRoyaltiesSaid : Prop := billRoyaltiesRow.holds Tryd.pinned (OpenSpec.ofChange billRoyaltiesSpec)

/-- ITS FALSE NEIGHBOUR: 'it returns false'. Refute it at one input. -/
def billRoyaltiesWrong : ChangeSpec := { name := "billRoyalties", fn := fun _ => fun
  | [d1, d2, d3, d4, d5] => { results := [.lit (.bool false)], args := [d1, d2, d3, d4, d5] }
  | _ => none }
def BillRoyaltiesWrongFalsely : Prop := billRoyaltiesRow.holds Tryd.pinned (OpenSpec.ofChange billRoyaltiesWrong)

/-- 'airchecklaw39.BillSettles': WHATEVER THE INPUT: true; the input reads as it did. -/
def billSettlesSpec : ChangeSpec := { name := "billSettles", fn := fun _ => fun
  | [d1, d2, d3] => { results := [.lit (.bool true)], args := [d1, d2, d3] }
  | _ => none }
def billSettlesRow : OpenClaim := { program := "ytijnbpnficcpmaadoor", sum := "f42f7bfd5cd5cc7557c38280d5de383a9a189d27bcff24a73712b2cd7ae6c4ee", func := "aircheck/airchecklaw39.BillSettles", spec := "billSettles", unfollowed := true, recurses := true, named := ["aircheck/contract.tests"], plainKeys := false, apart := false, laid := [("aircheck/contract.tests", laid_aircheck_contract_tests)] }
def BillSettlesSaid : Prop := billSettlesRow.holds Tryd.pinned (OpenSpec.ofChange billSettlesSpec)

/-- ITS FALSE NEIGHBOUR: 'it returns false'. Refute it at one input. -/
def billSettlesWrong : ChangeSpec := { name := "billSettles", fn := fun _ => fun
  | [d1, d2, d3] => { results := [.lit (.bool false)], args := [d1, d2, d3] }
  | _ => none }
def BillSettlesWrongFalsely : Prop := billSettlesRow.holds Tryd.pinned (OpenSpec.ofChange billSettlesWrong)

/-- 'airchecklaw39.BillFollows': WHATEVER THE INPUT: true; the input reads as it did. -/
def billFollowsSpec : ChangeSpec := { name := "billFollows", fn := fun _ => fun
  | [d1, d2, d3, d4, d5] => { results := [.lit (.bool true)], args := [d1, d2, d3, d4, d5] }
  | _ => none }
def billFollowsRow : OpenClaim := { program := "ytijnbpnficcpmaadoor", sum := "f42f7bfd5cd5cc7557c38280d5de383a9a189d27bcff24a73712b2cd7ae6c4ee", func := "aircheck/airchecklaw39.BillFollows", spec := "billFollows", unfollowed := true, recurses := true, named := ["aircheck/contract.tests"], plainKeys := false, apart := false, laid := [("aircheck/contract.tests", laid_aircheck_contract_tests)] }
def BillFollowsSaid : Prop := billFollowsRow.holds Tryd.pinned (OpenSpec.ofChange billFollowsSpec)

/-- ITS FALSE NEIGHBOUR: 'it returns false'. Refute it at one input. -/
def billFollowsWrong : ChangeSpec := { name := "billFollows", fn := fun _ => fun
  | [d1, d2, d3, d4, d5] => { results := [.lit (.bool false)], args := [d1, d2, d3, d4, d5] }
  | _ => none }
def BillFollowsWrongFalsely : Prop := billFollowsRow.holds Tryd.pinned (OpenSpec.ofChange billFollowsWrong)

/-- 'airchecklaw39.BillKeeps': WHATEVER THE INPUT: true; the input reads as it did. -/
def billKeepsSpec : ChangeSpec := { name := "billKeeps", fn := fun _ => fun
  | [d1, d2, d3, d4, d5] => { results := [.lit (.bool true)], args := [d1, d2, d3, d4, d5] }
  | _ => none }
def billKeepsRow : OpenClaim := { program := "ytijnbpnficcpmaadoor", sum := "f42f7bfd5cd5cc7557c38280d5de383a9a189d27bcff24a73712b2cd7ae6c4ee", func := "aircheck/airchecklaw39.BillKeeps", spec := "billKeeps", unfollowed := true, recurses := true, named := ["aircheck/contract.tests"], plainKeys := false, apart := false, laid := [("aircheck/contract.tests", laid_aircheck_contract_tests)] }
def BillKeepsSaid : Prop := billKeepsRow.holds Tryd.pinned (OpenSpec.ofChange billKeepsSpec)

/-- ITS FALSE NEIGHBOUR: 'it returns false'. Refute it at one input. -/
def billKeepsWrong : ChangeSpec := { name := "billKeeps", fn := fun _ => fun
  | [d1, d2, d3, d4, d5] => { results := [.lit (.bool false)], args := [d1, d2, d3, d4, d5] }
  | _ => none }
def BillKeepsWrongFalsely : Prop := billKeepsRow.holds Tryd.pinned (OpenSpec.ofChange billKeepsWrong)

/- THE SECOND FORM. 'bulk': how many values and letters a reading holds, each counted each time it is reached (what is shared counts as often as it is met; a slice's spare places count too). A statement '..UptoSaid' is the law's where the arguments, and the package variables that the reading takes, are together of bulk at most 1048576: NARROWER than '..Said'. Prove '..Said' where nothing that the law and all that it calls make is longer than what came in: it says more and counts as full. Else prove '..UptoSaid'. A law counts once. -/
mutual
def uptoBulk {H : Type} : DataW H → Nat
  | .lit (.string bytes) => bytes.length + 1
  | .lit _ => 1
  | .nil => 1
  | .ptr d => uptoBulk d + 1
  | .slice elems spare => uptoBulkAll elems + uptoBulkAll spare + 1
  | .agg parts => uptoBulkAll parts + 1
  | .iface _ d => uptoBulk d + 1
  | .map entries => uptoBulkEntries entries + 1
  | .held _ => 1
def uptoBulkAll {H : Type} : List (DataW H) → Nat
  | [] => 0
  | d :: r => uptoBulk d + uptoBulkAll r
def uptoBulkEntries {H : Type} : List (Lit × DataW H) → Nat
  | [] => 0
  | x :: r => uptoBulkEntry x + uptoBulkEntries r
def uptoBulkEntry {H : Type} : Lit × DataW H → Nat
  | (.string bytes, d) => bytes.length + uptoBulk d + 1
  | (_, d) => uptoBulk d + 1
 end
def uptoSmall : (H : Type) → List (DataW H) → Bool := fun _ ds => decide (uptoBulkAll ds ≤ 1048576)
def OpenSpec.upto (s : _root_.Go.ChangeSpec) : _root_.Go.OpenSpec := { _root_.Go.OpenSpec.ofChange s with cond := some uptoSmall }

/-- 'airchecklaw39.BillMatchesReference', WHERE WHAT IT READS IS OF BULK AT MOST 1048576: true; the input reads as it did. -/
def billMatchesReferenceUptoRow : OpenClaim := { program := "ytijnbpnficcpmaadoor", sum := "f42f7bfd5cd5cc7557c38280d5de383a9a189d27bcff24a73712b2cd7ae6c4ee", func := "aircheck/airchecklaw39.BillMatchesReference", spec := "billMatchesReference", unfollowed := true, recurses := true, named := ["aircheck/contract.tests"], plainKeys := false, apart := false, laid := [("aircheck/contract.tests", laid_aircheck_contract_tests)], narrowed := true }
def BillMatchesReferenceUptoSaid : Prop := billMatchesReferenceUptoRow.holds Tryd.pinned (OpenSpec.upto billMatchesReferenceSpec)

/-- 'airchecklaw39.BillDelivers', WHERE WHAT IT READS IS OF BULK AT MOST 1048576: true; the input reads as it did. -/
def billDeliversUptoRow : OpenClaim := { program := "ytijnbpnficcpmaadoor", sum := "f42f7bfd5cd5cc7557c38280d5de383a9a189d27bcff24a73712b2cd7ae6c4ee", func := "aircheck/airchecklaw39.BillDelivers", spec := "billDelivers", unfollowed := true, recurses := true, named := ["aircheck/contract.tests"], plainKeys := false, apart := false, laid := [("aircheck/contract.tests", laid_aircheck_contract_tests)], narrowed := true }
def BillDeliversUptoSaid : Prop := billDeliversUptoRow.holds Tryd.pinned (OpenSpec.upto billDeliversSpec)

/-- 'airchecklaw39.BillShares', WHERE WHAT IT READS IS OF BULK AT MOST 1048576: true; the input reads as it did. -/
def billSharesUptoRow : OpenClaim := { program := "ytijnbpnficcpmaadoor", sum := "f42f7bfd5cd5cc7557c38280d5de383a9a189d27bcff24a73712b2cd7ae6c4ee", func := "aircheck/airchecklaw39.BillShares", spec := "billShares", unfollowed := true, recurses := true, named := ["aircheck/contract.tests"], plainKeys := false, apart := false, laid := [("aircheck/contract.tests", laid_aircheck_contract_tests)], narrowed := true }
def BillSharesUptoSaid : Prop := billSharesUptoRow.holds Tryd.pinned (OpenSpec.upto billSharesSpec)

/-- 'airchecklaw39.BillRoyalties', WHERE WHAT IT READS IS OF BULK AT MOST 1048576: true; the input reads as it did. -/
def billRoyaltiesUptoRow : OpenClaim := { program := "ytijnbpnficcpmaadoor", sum := "f42f7bfd5cd5cc7557c38280d5de383a9a189d27bcff24a73712b2cd7ae6c4ee", func := "aircheck/airchecklaw39.BillRoyalties", spec := "billRoyalties", unfollowed := true, recurses := true, named := ["aircheck/contract.tests"], plainKeys := false, apart := false, laid := [("aircheck/contract.tests", laid_aircheck_contract_tests)], narrowed := true }
def BillRoyaltiesUptoSaid : Prop := billRoyaltiesUptoRow.holds Tryd.pinned (OpenSpec.upto billRoyaltiesSpec)

/-- 'airchecklaw39.BillSettles', WHERE WHAT IT READS IS OF BULK AT MOST 1048576: true; the input reads as it did. -/
def billSettlesUptoRow : OpenClaim := { program := "ytijnbpnficcpmaadoor", sum := "f42f7bfd5cd5cc7557c38280d5de383a9a189d27bcff24a73712b2cd7ae6c4ee", func := "aircheck/airchecklaw39.BillSettles", spec := "billSettles", unfollowed := true, recurses := true, named := ["aircheck/contract.tests"], plainKeys := false, apart := false, laid := [("aircheck/contract.tests", laid_aircheck_contract_tests)], narrowed := true }
def BillSettlesUptoSaid : Prop := billSettlesUptoRow.holds Tryd.pinned (OpenSpec.upto billSettlesSpec)

/-- 'airchecklaw39.BillFollows', WHERE WHAT IT READS IS OF BULK AT MOST 1048576: true; the input reads as it did. -/
def billFollowsUptoRow : OpenClaim := { program := "ytijnbpnficcpmaadoor", sum := "f42f7bfd5cd5cc7557c38280d5de383a9a189d27bcff24a73712b2cd7ae6c4ee", func := "aircheck/airchecklaw39.BillFollows", spec := "billFollows", unfollowed := true, recurses := true, named := ["aircheck/contract.tests"], plainKeys := false, apart := false, laid := [("aircheck/contract.tests", laid_aircheck_contract_tests)], narrowed := true }
def BillFollowsUptoSaid : Prop := billFollowsUptoRow.holds Tryd.pinned (OpenSpec.upto billFollowsSpec)

/-- 'airchecklaw39.BillKeeps', WHERE WHAT IT READS IS OF BULK AT MOST 1048576: true; the input reads as it did. -/
def billKeepsUptoRow : OpenClaim := { program := "ytijnbpnficcpmaadoor", sum := "f42f7bfd5cd5cc7557c38280d5de383a9a189d27bcff24a73712b2cd7ae6c4ee", func := "aircheck/airchecklaw39.BillKeeps", spec := "billKeeps", unfollowed := true, recurses := true, named := ["aircheck/contract.tests"], plainKeys := false, apart := false, laid := [("aircheck/contract.tests", laid_aircheck_contract_tests)], narrowed := true }
def BillKeepsUptoSaid : Prop := billKeepsUptoRow.holds Tryd.pinned (OpenSpec.upto billKeepsSpec)

end Rows
end Go.Proofs.YtijnbpnficcpmaaDoor
