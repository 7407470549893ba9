/-
  NARROWER THAN 'FOR EVERY INPUT', by the rows' own cells (each row's printed sentence says how): ContractMatchesReference: laid · ContractBounds: laid · ContractNothing: laid · ContractOrder: laid · ContractNext: laid · ContractBefore: laid · ContractMissing: laid · ContractCategories: laid.
  DERIVED. THE GIVEN ROWS OF THIS SEAT. 8 by the template 'for every input the law returns true; each argument reads behind the call as it read before'; 0 by the template 'total and deterministic' (their statements: YteplelijhkmbkaaDoorTotals.lean).
  GIVEN WITH THE SEED: the statements are not yours to turn. If you find one false, say at which input.
  Laid BY PROGRAM, IN A SANDBOX (cutbox-rows.mjs): the forced cells as the released guide's own fill.sh prints them over the translation a912cb0cb3084fe0… (all of the seat's roots in one cut). By AI agents, Wed Nov 11 2026. No macro, syntax, notation, axiom, sorry.
-/
import Derived.Test.YteplelijhkmbkaaDoorChecked
import GoSem.Claim
import GoSem.ClaimJoined
import GoSem.ClaimMapViews
import Derived.JoinedTies
import Derived.KernelRfl
namespace Go.Proofs.YteplelijhkmbkaaDoor
/- THE CELL 'sum', in the pinned program and in every row, IS THE sha256 OF THE DUMP (.gsa) THAT YteplelijhkmbkaaDoorProg.lean LOADS. Nothing in Lean hashes anything: it is a label: what it is worth is what the hold of that sum in a sandbox is worth. -/
noncomputable def Tryd.pinned : Pinned := { name := "yteplelijhkmbkaadoor", sum := "a912cb0cb3084fe0cef641886cfbe1c1d45ea3c2b7d113243823fac913694815", checked := Tryd.checked }
namespace Rows
def none {H : Type} : Left H := { results := [], args := [] }

/- WHAT THE LISTED PACKAGE-LEVEL VARIABLES READ AS WHEN THE CALL BEGINS. Each datum BY PROGRAM (the guide's laid-datum.mjs) off the statement by which the dump's own 'gosem.cut.vars' lays the variable. In a bare row this is a premise. The card (YteplelijhkmbkaaDoorCards.lean) ties it to the program's text. -/
def laid_aircheck_contract_tests {H : Type} : DataW H := .iface "func table" (.agg [.nil, .nil, .iface "func" (.lit (.string [97, 105, 114, 99, 104, 101, 99, 107, 47, 99, 111, 110, 116, 114, 97, 99, 116, 46, 116, 101, 115, 116, 115, 36, 49])), .iface "func" (.lit (.string [97, 105, 114, 99, 104, 101, 99, 107, 47, 99, 111, 110, 116, 114, 97, 99, 116, 46, 116, 101, 115, 116, 115, 36, 50])), .iface "func" (.lit (.string [97, 105, 114, 99, 104, 101, 99, 107, 47, 99, 111, 110, 116, 114, 97, 99, 116, 46, 116, 101, 115, 116, 115, 36, 51])), .iface "func" (.lit (.string [97, 105, 114, 99, 104, 101, 99, 107, 47, 99, 111, 110, 116, 114, 97, 99, 116, 46, 116, 101, 115, 116, 115, 36, 52])), .iface "func" (.lit (.string [97, 105, 114, 99, 104, 101, 99, 107, 47, 99, 111, 110, 116, 114, 97, 99, 116, 46, 116, 101, 115, 116, 115, 36, 53])), .iface "func" (.lit (.string [97, 105, 114, 99, 104, 101, 99, 107, 47, 99, 111, 110, 116, 114, 97, 99, 116, 46, 116, 101, 115, 116, 115, 36, 54]))])

/-- 'airchecklaw12.ContractMatchesReference': WHATEVER THE INPUT: true; the input reads as it did. -/
def contractMatchesReferenceSpec : ChangeSpec := { name := "contractMatchesReference", fn := fun _ => fun
  | [d1, d2, d3, d4, d5, d6] => { results := [.lit (.bool true)], args := [d1, d2, d3, d4, d5, d6] }
  | _ => none }
def contractMatchesReferenceRow : OpenClaim := { program := "yteplelijhkmbkaadoor", sum := "a912cb0cb3084fe0cef641886cfbe1c1d45ea3c2b7d113243823fac913694815", func := "aircheck/airchecklaw12.ContractMatchesReference", spec := "contractMatchesReference", unfollowed := true, recurses := true, named := ["aircheck/contract.tests"], plainKeys := false, apart := false, laid := [("aircheck/contract.tests", laid_aircheck_contract_tests)] }
def ContractMatchesReferenceSaid : Prop := contractMatchesReferenceRow.holds Tryd.pinned (OpenSpec.ofChange contractMatchesReferenceSpec)

/-- ITS FALSE NEIGHBOUR: 'it returns false'. Refute it at one input. -/
def contractMatchesReferenceWrong : ChangeSpec := { name := "contractMatchesReference", fn := fun _ => fun
  | [d1, d2, d3, d4, d5, d6] => { results := [.lit (.bool false)], args := [d1, d2, d3, d4, d5, d6] }
  | _ => none }
def ContractMatchesReferenceWrongFalsely : Prop := contractMatchesReferenceRow.holds Tryd.pinned (OpenSpec.ofChange contractMatchesReferenceWrong)

/-- 'airchecklaw12.ContractBounds': WHATEVER THE INPUT: true; the input reads as it did. -/
def contractBoundsSpec : ChangeSpec := { name := "contractBounds", fn := fun _ => fun
  | [d1, d2] => { results := [.lit (.bool true)], args := [d1, d2] }
  | _ => none }
def contractBoundsRow : OpenClaim := { program := "yteplelijhkmbkaadoor", sum := "a912cb0cb3084fe0cef641886cfbe1c1d45ea3c2b7d113243823fac913694815", func := "aircheck/airchecklaw12.ContractBounds", spec := "contractBounds", unfollowed := true, recurses := true, named := ["aircheck/contract.tests"], plainKeys := false, apart := false, laid := [("aircheck/contract.tests", laid_aircheck_contract_tests)] }
def ContractBoundsSaid : Prop := contractBoundsRow.holds Tryd.pinned (OpenSpec.ofChange contractBoundsSpec)

/-- ITS FALSE NEIGHBOUR: 'it returns false'. Refute it at one input. -/
def contractBoundsWrong : ChangeSpec := { name := "contractBounds", fn := fun _ => fun
  | [d1, d2] => { results := [.lit (.bool false)], args := [d1, d2] }
  | _ => none }
def ContractBoundsWrongFalsely : Prop := contractBoundsRow.holds Tryd.pinned (OpenSpec.ofChange contractBoundsWrong)

/-- 'airchecklaw12.ContractNothing': WHATEVER THE INPUT: true; the input reads as it did. -/
def contractNothingSpec : ChangeSpec := { name := "contractNothing", fn := fun _ => fun
  | [d1, d2, d3] => { results := [.lit (.bool true)], args := [d1, d2, d3] }
  | _ => none }
def contractNothingRow : OpenClaim := { program := "yteplelijhkmbkaadoor", sum := "a912cb0cb3084fe0cef641886cfbe1c1d45ea3c2b7d113243823fac913694815", func := "aircheck/airchecklaw12.ContractNothing", spec := "contractNothing", unfollowed := true, recurses := true, named := ["aircheck/contract.tests"], plainKeys := false, apart := false, laid := [("aircheck/contract.tests", laid_aircheck_contract_tests)] }
def ContractNothingSaid : Prop := contractNothingRow.holds Tryd.pinned (OpenSpec.ofChange contractNothingSpec)

/-- ITS FALSE NEIGHBOUR: 'it returns false'. Refute it at one input. -/
def contractNothingWrong : ChangeSpec := { name := "contractNothing", fn := fun _ => fun
  | [d1, d2, d3] => { results := [.lit (.bool false)], args := [d1, d2, d3] }
  | _ => none }
def ContractNothingWrongFalsely : Prop := contractNothingRow.holds Tryd.pinned (OpenSpec.ofChange contractNothingWrong)

/-- 'airchecklaw12.ContractOrder': WHATEVER THE INPUT: true; the input reads as it did. -/
def contractOrderSpec : ChangeSpec := { name := "contractOrder", fn := fun _ => fun
  | [d1, d2, d3, d4, d5] => { results := [.lit (.bool true)], args := [d1, d2, d3, d4, d5] }
  | _ => none }
def contractOrderRow : OpenClaim := { program := "yteplelijhkmbkaadoor", sum := "a912cb0cb3084fe0cef641886cfbe1c1d45ea3c2b7d113243823fac913694815", func := "aircheck/airchecklaw12.ContractOrder", spec := "contractOrder", unfollowed := true, recurses := true, named := ["aircheck/contract.tests"], plainKeys := false, apart := false, laid := [("aircheck/contract.tests", laid_aircheck_contract_tests)] }
def ContractOrderSaid : Prop := contractOrderRow.holds Tryd.pinned (OpenSpec.ofChange contractOrderSpec)

/-- ITS FALSE NEIGHBOUR: 'it returns false'. Refute it at one input. -/
def contractOrderWrong : ChangeSpec := { name := "contractOrder", fn := fun _ => fun
  | [d1, d2, d3, d4, d5] => { results := [.lit (.bool false)], args := [d1, d2, d3, d4, d5] }
  | _ => none }
def ContractOrderWrongFalsely : Prop := contractOrderRow.holds Tryd.pinned (OpenSpec.ofChange contractOrderWrong)

/-- 'airchecklaw12.ContractNext': WHATEVER THE INPUT: true; the input reads as it did. -/
def contractNextSpec : ChangeSpec := { name := "contractNext", fn := fun _ => fun
  | [d1, d2, d3, d4] => { results := [.lit (.bool true)], args := [d1, d2, d3, d4] }
  | _ => none }
def contractNextRow : OpenClaim := { program := "yteplelijhkmbkaadoor", sum := "a912cb0cb3084fe0cef641886cfbe1c1d45ea3c2b7d113243823fac913694815", func := "aircheck/airchecklaw12.ContractNext", spec := "contractNext", unfollowed := true, recurses := true, named := ["aircheck/contract.tests"], plainKeys := false, apart := false, laid := [("aircheck/contract.tests", laid_aircheck_contract_tests)] }
def ContractNextSaid : Prop := contractNextRow.holds Tryd.pinned (OpenSpec.ofChange contractNextSpec)

/-- ITS FALSE NEIGHBOUR: 'it returns false'. Refute it at one input. -/
def contractNextWrong : ChangeSpec := { name := "contractNext", fn := fun _ => fun
  | [d1, d2, d3, d4] => { results := [.lit (.bool false)], args := [d1, d2, d3, d4] }
  | _ => none }
def ContractNextWrongFalsely : Prop := contractNextRow.holds Tryd.pinned (OpenSpec.ofChange contractNextWrong)

/-- 'airchecklaw12.ContractBefore': WHATEVER THE INPUT: true; the input reads as it did. -/
def contractBeforeSpec : ChangeSpec := { name := "contractBefore", fn := fun _ => fun
  | [d1, d2, d3] => { results := [.lit (.bool true)], args := [d1, d2, d3] }
  | _ => none }
def contractBeforeRow : OpenClaim := { program := "yteplelijhkmbkaadoor", sum := "a912cb0cb3084fe0cef641886cfbe1c1d45ea3c2b7d113243823fac913694815", func := "aircheck/airchecklaw12.ContractBefore", spec := "contractBefore", unfollowed := true, recurses := true, named := ["aircheck/contract.tests"], plainKeys := false, apart := false, laid := [("aircheck/contract.tests", laid_aircheck_contract_tests)] }
def ContractBeforeSaid : Prop := contractBeforeRow.holds Tryd.pinned (OpenSpec.ofChange contractBeforeSpec)

/-- ITS FALSE NEIGHBOUR: 'it returns false'. Refute it at one input. -/
def contractBeforeWrong : ChangeSpec := { name := "contractBefore", fn := fun _ => fun
  | [d1, d2, d3] => { results := [.lit (.bool false)], args := [d1, d2, d3] }
  | _ => none }
def ContractBeforeWrongFalsely : Prop := contractBeforeRow.holds Tryd.pinned (OpenSpec.ofChange contractBeforeWrong)

/-- 'airchecklaw12.ContractMissing': WHATEVER THE INPUT: true; the input reads as it did. -/
def contractMissingSpec : ChangeSpec := { name := "contractMissing", fn := fun _ => fun
  | [d1, d2, d3, d4] => { results := [.lit (.bool true)], args := [d1, d2, d3, d4] }
  | _ => none }
def contractMissingRow : OpenClaim := { program := "yteplelijhkmbkaadoor", sum := "a912cb0cb3084fe0cef641886cfbe1c1d45ea3c2b7d113243823fac913694815", func := "aircheck/airchecklaw12.ContractMissing", spec := "contractMissing", unfollowed := true, recurses := true, named := ["aircheck/contract.tests"], plainKeys := false, apart := false, laid := [("aircheck/contract.tests", laid_aircheck_contract_tests)] }
def ContractMissingSaid : Prop := contractMissingRow.holds Tryd.pinned (OpenSpec.ofChange contractMissingSpec)

/-- ITS FALSE NEIGHBOUR: 'it returns false'. Refute it at one input. -/
def contractMissingWrong : ChangeSpec := { name := "contractMissing", fn := fun _ => fun
  | [d1, d2, d3, d4] => { results := [.lit (.bool false)], args := [d1, d2, d3, d4] }
  | _ => none }
def ContractMissingWrongFalsely : Prop := contractMissingRow.holds Tryd.pinned (OpenSpec.ofChange contractMissingWrong)

/-- 'airchecklaw12.ContractCategories': WHATEVER THE INPUT: true; the input reads as it did. -/
def contractCategoriesSpec : ChangeSpec := { name := "contractCategories", fn := fun _ => fun
  | [d1, d2, d3] => { results := [.lit (.bool true)], args := [d1, d2, d3] }
  | _ => none }
def contractCategoriesRow : OpenClaim := { program := "yteplelijhkmbkaadoor", sum := "a912cb0cb3084fe0cef641886cfbe1c1d45ea3c2b7d113243823fac913694815", func := "aircheck/airchecklaw12.ContractCategories", spec := "contractCategories", unfollowed := true, recurses := true, named := ["aircheck/contract.tests"], plainKeys := false, apart := false, laid := [("aircheck/contract.tests", laid_aircheck_contract_tests)] }
def ContractCategoriesSaid : Prop := contractCategoriesRow.holds Tryd.pinned (OpenSpec.ofChange contractCategoriesSpec)

/-- ITS FALSE NEIGHBOUR: 'it returns false'. Refute it at one input. -/
def contractCategoriesWrong : ChangeSpec := { name := "contractCategories", fn := fun _ => fun
  | [d1, d2, d3] => { results := [.lit (.bool false)], args := [d1, d2, d3] }
  | _ => none }
def ContractCategoriesWrongFalsely : Prop := contractCategoriesRow.holds Tryd.pinned (OpenSpec.ofChange contractCategoriesWrong)

/- THE SECOND FORM. 'bulk': how many values and letters a reading holds, each counted each time it is reached (what is shared counts as often as it is met; a slice's spare places count too). A statement '..UptoSaid' is the law's where the arguments, and the package variables that the reading takes, are together of bulk at most 1048576: NARROWER than '..Said'. Prove '..Said' where nothing that the law and all that it calls make is longer than what came in: it says more and counts as full. Else prove '..UptoSaid'. A law counts once. -/
mutual
def uptoBulk {H : Type} : DataW H → Nat
  | .lit (.string bytes) => bytes.length + 1
  | .lit _ => 1
  | .nil => 1
  | .ptr d => uptoBulk d + 1
  | .slice elems spare => uptoBulkAll elems + uptoBulkAll spare + 1
  | .agg parts => uptoBulkAll parts + 1
  | .iface _ d => uptoBulk d + 1
  | .map entries => uptoBulkEntries entries + 1
  | .held _ => 1
def uptoBulkAll {H : Type} : List (DataW H) → Nat
  | [] => 0
  | d :: r => uptoBulk d + uptoBulkAll r
def uptoBulkEntries {H : Type} : List (Lit × DataW H) → Nat
  | [] => 0
  | x :: r => uptoBulkEntry x + uptoBulkEntries r
def uptoBulkEntry {H : Type} : Lit × DataW H → Nat
  | (.string bytes, d) => bytes.length + uptoBulk d + 1
  | (_, d) => uptoBulk d + 1
 end
def uptoSmall : (H : Type) → List (DataW H) → Bool := fun _ ds => decide (uptoBulkAll ds ≤ 1048576)
def OpenSpec.upto (s : _root_.Go.ChangeSpec) : _root_.Go.OpenSpec := { _root_.Go.OpenSpec.ofChange s with cond := some uptoSmall }

/-- 'airchecklaw12.ContractMatchesReference', WHERE WHAT IT READS IS OF BULK AT MOST 1048576: true; the input reads as it did. -/
def contractMatchesReferenceUptoRow : OpenClaim := { program := "yteplelijhkmbkaadoor", sum := "a912cb0cb3084fe0cef641886cfbe1c1d45ea3c2b7d113243823fac913694815", func := "aircheck/airchecklaw12.ContractMatchesReference", spec := "contractMatchesReference", unfollowed := true, recurses := true, named := ["aircheck/contract.tests"], plainKeys := false, apart := false, laid := [("aircheck/contract.tests", laid_aircheck_contract_tests)], narrowed := true }
def ContractMatchesReferenceUptoSaid : Prop := contractMatchesReferenceUptoRow.holds Tryd.pinned (OpenSpec.upto contractMatchesReferenceSpec)

/-- 'airchecklaw12.ContractBounds', WHERE WHAT IT READS IS OF BULK AT MOST 1048576: true; the input reads as it did. -/
def contractBoundsUptoRow : OpenClaim := { program := "yteplelijhkmbkaadoor", sum := "a912cb0cb3084fe0cef641886cfbe1c1d45ea3c2b7d113243823fac913694815", func := "aircheck/airchecklaw12.ContractBounds", spec := "contractBounds", unfollowed := true, recurses := true, named := ["aircheck/contract.tests"], plainKeys := false, apart := false, laid := [("aircheck/contract.tests", laid_aircheck_contract_tests)], narrowed := true }
def ContractBoundsUptoSaid : Prop := contractBoundsUptoRow.holds Tryd.pinned (OpenSpec.upto contractBoundsSpec)

/-- 'airchecklaw12.ContractNothing', WHERE WHAT IT READS IS OF BULK AT MOST 1048576: true; the input reads as it did. -/
def contractNothingUptoRow : OpenClaim := { program := "yteplelijhkmbkaadoor", sum := "a912cb0cb3084fe0cef641886cfbe1c1d45ea3c2b7d113243823fac913694815", func := "aircheck/airchecklaw12.ContractNothing", spec := "contractNothing", unfollowed := true, recurses := true, named := ["aircheck/contract.tests"], plainKeys := false, apart := false, laid := [("aircheck/contract.tests", laid_aircheck_contract_tests)], narrowed := true }
def ContractNothingUptoSaid : Prop := contractNothingUptoRow.holds Tryd.pinned (OpenSpec.upto contractNothingSpec)

/-- 'airchecklaw12.ContractOrder', WHERE WHAT IT READS IS OF BULK AT MOST 1048576: true; the input reads as it did. -/
def contractOrderUptoRow : OpenClaim := { program := "yteplelijhkmbkaadoor", sum := "a912cb0cb3084fe0cef641886cfbe1c1d45ea3c2b7d113243823fac913694815", func := "aircheck/airchecklaw12.ContractOrder", spec := "contractOrder", unfollowed := true, recurses := true, named := ["aircheck/contract.tests"], plainKeys := false, apart := false, laid := [("aircheck/contract.tests", laid_aircheck_contract_tests)], narrowed := true }
def ContractOrderUptoSaid : Prop := contractOrderUptoRow.holds Tryd.pinned (OpenSpec.upto contractOrderSpec)

/-- 'airchecklaw12.ContractNext', WHERE WHAT IT READS IS OF BULK AT MOST 1048576: true; the input reads as it did. -/
def contractNextUptoRow : OpenClaim := { program := "yteplelijhkmbkaadoor", sum := "a912cb0cb3084fe0cef641886cfbe1c1d45ea3c2b7d113243823fac913694815", func := "aircheck/airchecklaw12.ContractNext", spec := "contractNext", unfollowed := true, recurses := true, named := ["aircheck/contract.tests"], plainKeys := false, apart := false, laid := [("aircheck/contract.tests", laid_aircheck_contract_tests)], narrowed := true }
def ContractNextUptoSaid : Prop := contractNextUptoRow.holds Tryd.pinned (OpenSpec.upto contractNextSpec)

/-- 'airchecklaw12.ContractBefore', WHERE WHAT IT READS IS OF BULK AT MOST 1048576: true; the input reads as it did. -/
def contractBeforeUptoRow : OpenClaim := { program := "yteplelijhkmbkaadoor", sum := "a912cb0cb3084fe0cef641886cfbe1c1d45ea3c2b7d113243823fac913694815", func := "aircheck/airchecklaw12.ContractBefore", spec := "contractBefore", unfollowed := true, recurses := true, named := ["aircheck/contract.tests"], plainKeys := false, apart := false, laid := [("aircheck/contract.tests", laid_aircheck_contract_tests)], narrowed := true }
def ContractBeforeUptoSaid : Prop := contractBeforeUptoRow.holds Tryd.pinned (OpenSpec.upto contractBeforeSpec)

/-- 'airchecklaw12.ContractMissing', WHERE WHAT IT READS IS OF BULK AT MOST 1048576: true; the input reads as it did. -/
def contractMissingUptoRow : OpenClaim := { program := "yteplelijhkmbkaadoor", sum := "a912cb0cb3084fe0cef641886cfbe1c1d45ea3c2b7d113243823fac913694815", func := "aircheck/airchecklaw12.ContractMissing", spec := "contractMissing", unfollowed := true, recurses := true, named := ["aircheck/contract.tests"], plainKeys := false, apart := false, laid := [("aircheck/contract.tests", laid_aircheck_contract_tests)], narrowed := true }
def ContractMissingUptoSaid : Prop := contractMissingUptoRow.holds Tryd.pinned (OpenSpec.upto contractMissingSpec)

/-- 'airchecklaw12.ContractCategories', WHERE WHAT IT READS IS OF BULK AT MOST 1048576: true; the input reads as it did. -/
def contractCategoriesUptoRow : OpenClaim := { program := "yteplelijhkmbkaadoor", sum := "a912cb0cb3084fe0cef641886cfbe1c1d45ea3c2b7d113243823fac913694815", func := "aircheck/airchecklaw12.ContractCategories", spec := "contractCategories", unfollowed := true, recurses := true, named := ["aircheck/contract.tests"], plainKeys := false, apart := false, laid := [("aircheck/contract.tests", laid_aircheck_contract_tests)], narrowed := true }
def ContractCategoriesUptoSaid : Prop := contractCategoriesUptoRow.holds Tryd.pinned (OpenSpec.upto contractCategoriesSpec)

end Rows
end Go.Proofs.YteplelijhkmbkaaDoor
