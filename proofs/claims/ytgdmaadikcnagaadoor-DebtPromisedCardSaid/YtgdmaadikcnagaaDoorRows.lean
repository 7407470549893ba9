/-
  NARROWER THAN 'FOR EVERY INPUT', by the rows' own cells (each row's printed sentence says how): DebtLost: laid · DebtFirst: laid · DebtDeadlines: laid · DebtCertificates: laid · DebtMost: laid · DebtRoom: laid · DebtPromised: laid.
  DERIVED. THE GIVEN ROWS OF THIS SEAT. 7 by the template 'for every input the law returns true; each argument reads behind the call as it read before'; 0 by the template 'total and deterministic' (their statements: YtgdmaadikcnagaaDoorTotals.lean).
  GIVEN WITH THE SEED: the statements are not yours to turn. If you find one false, say at which input.
  Laid BY PROGRAM, IN A SANDBOX (cutbox-rows.mjs): the forced cells as the released guide's own fill.sh prints them over the translation 6761c306809c5af9… (all of the seat's roots in one cut). By AI agents, Wed Nov 11 2026. No macro, syntax, notation, axiom, sorry.
-/
import Derived.Test.YtgdmaadikcnagaaDoorChecked
import GoSem.Claim
import GoSem.ClaimJoined
import GoSem.ClaimMapViews
import Derived.JoinedTies
import Derived.KernelRfl
namespace Go.Proofs.YtgdmaadikcnagaaDoor
/- THE CELL 'sum', in the pinned program and in every row, IS THE sha256 OF THE DUMP (.gsa) THAT YtgdmaadikcnagaaDoorProg.lean LOADS. Nothing in Lean hashes anything: it is a label: what it is worth is what the hold of that sum in a sandbox is worth. -/
noncomputable def Tryd.pinned : Pinned := { name := "ytgdmaadikcnagaadoor", sum := "6761c306809c5af9f21b6ef1f84a5347de9d6563dd761ed26129a656794dbe25", checked := Tryd.checked }
namespace Rows
def none {H : Type} : Left H := { results := [], args := [] }

/- WHAT THE LISTED PACKAGE-LEVEL VARIABLES READ AS WHEN THE CALL BEGINS. Each datum BY PROGRAM (the guide's laid-datum.mjs) off the statement by which the dump's own 'gosem.cut.vars' lays the variable. In a bare row this is a premise. The card (YtgdmaadikcnagaaDoorCards.lean) ties it to the program's text. -/
def laid_aircheck_contract_tests {H : Type} : DataW H := .iface "func table" (.agg [.nil, .nil, .iface "func" (.lit (.string [97, 105, 114, 99, 104, 101, 99, 107, 47, 99, 111, 110, 116, 114, 97, 99, 116, 46, 116, 101, 115, 116, 115, 36, 49])), .iface "func" (.lit (.string [97, 105, 114, 99, 104, 101, 99, 107, 47, 99, 111, 110, 116, 114, 97, 99, 116, 46, 116, 101, 115, 116, 115, 36, 50])), .iface "func" (.lit (.string [97, 105, 114, 99, 104, 101, 99, 107, 47, 99, 111, 110, 116, 114, 97, 99, 116, 46, 116, 101, 115, 116, 115, 36, 51])), .iface "func" (.lit (.string [97, 105, 114, 99, 104, 101, 99, 107, 47, 99, 111, 110, 116, 114, 97, 99, 116, 46, 116, 101, 115, 116, 115, 36, 52])), .iface "func" (.lit (.string [97, 105, 114, 99, 104, 101, 99, 107, 47, 99, 111, 110, 116, 114, 97, 99, 116, 46, 116, 101, 115, 116, 115, 36, 53])), .iface "func" (.lit (.string [97, 105, 114, 99, 104, 101, 99, 107, 47, 99, 111, 110, 116, 114, 97, 99, 116, 46, 116, 101, 115, 116, 115, 36, 54]))])
def laid_aircheck_debt_kinds {H : Type} : DataW H := .iface "func table" (.map [(.int .i64 1, .agg [.iface "func" (.lit (.string [97, 105, 114, 99, 104, 101, 99, 107, 47, 100, 101, 98, 116, 46, 107, 105, 110, 100, 115, 36, 49])), .iface "func" (.lit (.string [97, 105, 114, 99, 104, 101, 99, 107, 47, 100, 101, 98, 116, 46, 107, 105, 110, 100, 115, 36, 50]))]), (.int .i64 2, .agg [.iface "func" (.lit (.string [97, 105, 114, 99, 104, 101, 99, 107, 47, 100, 101, 98, 116, 46, 107, 105, 110, 100, 115, 36, 51])), .iface "func" (.lit (.string [97, 105, 114, 99, 104, 101, 99, 107, 47, 100, 101, 98, 116, 46, 107, 105, 110, 100, 115, 36, 52]))]), (.int .i64 3, .agg [.iface "func" (.lit (.string [97, 105, 114, 99, 104, 101, 99, 107, 47, 100, 101, 98, 116, 46, 107, 105, 110, 100, 115, 36, 53])), .iface "func" (.lit (.string [97, 105, 114, 99, 104, 101, 99, 107, 47, 100, 101, 98, 116, 46, 107, 105, 110, 100, 115, 36, 54]))]), (.int .i64 4, .agg [.iface "func" (.lit (.string [97, 105, 114, 99, 104, 101, 99, 107, 47, 100, 101, 98, 116, 46, 107, 105, 110, 100, 115, 36, 55])), .iface "func" (.lit (.string [97, 105, 114, 99, 104, 101, 99, 107, 47, 100, 101, 98, 116, 46, 107, 105, 110, 100, 115, 36, 56]))])])

/-- 'airchecklaw14.DebtLost': WHATEVER THE INPUT: true; the input reads as it did. -/
def debtLostSpec : ChangeSpec := { name := "debtLost", fn := fun _ => fun
  | [d] => { results := [.lit (.bool true)], args := [d] }
  | _ => none }
def debtLostRow : OpenClaim := { program := "ytgdmaadikcnagaadoor", sum := "6761c306809c5af9f21b6ef1f84a5347de9d6563dd761ed26129a656794dbe25", func := "aircheck/airchecklaw14.DebtLost", spec := "debtLost", unfollowed := true, recurses := true, named := ["aircheck/debt.kinds", "aircheck/contract.tests"], plainKeys := false, apart := false, laid := [("aircheck/contract.tests", laid_aircheck_contract_tests), ("aircheck/debt.kinds", laid_aircheck_debt_kinds)] }
def DebtLostSaid : Prop := debtLostRow.holds Tryd.pinned (OpenSpec.ofChange debtLostSpec)

/-- ITS FALSE NEIGHBOUR: 'it returns false'. Refute it at one input. -/
def debtLostWrong : ChangeSpec := { name := "debtLost", fn := fun _ => fun
  | [d] => { results := [.lit (.bool false)], args := [d] }
  | _ => none }
def DebtLostWrongFalsely : Prop := debtLostRow.holds Tryd.pinned (OpenSpec.ofChange debtLostWrong)

/-- 'airchecklaw14.DebtFirst': WHATEVER THE INPUT: true; the input reads as it did. -/
def debtFirstSpec : ChangeSpec := { name := "debtFirst", fn := fun _ => fun
  | [d1, d2, d3, d4] => { results := [.lit (.bool true)], args := [d1, d2, d3, d4] }
  | _ => none }
def debtFirstRow : OpenClaim := { program := "ytgdmaadikcnagaadoor", sum := "6761c306809c5af9f21b6ef1f84a5347de9d6563dd761ed26129a656794dbe25", func := "aircheck/airchecklaw14.DebtFirst", spec := "debtFirst", unfollowed := true, recurses := true, named := ["aircheck/debt.kinds", "aircheck/contract.tests"], plainKeys := false, apart := false, laid := [("aircheck/contract.tests", laid_aircheck_contract_tests), ("aircheck/debt.kinds", laid_aircheck_debt_kinds)] }
def DebtFirstSaid : Prop := debtFirstRow.holds Tryd.pinned (OpenSpec.ofChange debtFirstSpec)

/-- ITS FALSE NEIGHBOUR: 'it returns false'. Refute it at one input. -/
def debtFirstWrong : ChangeSpec := { name := "debtFirst", fn := fun _ => fun
  | [d1, d2, d3, d4] => { results := [.lit (.bool false)], args := [d1, d2, d3, d4] }
  | _ => none }
def DebtFirstWrongFalsely : Prop := debtFirstRow.holds Tryd.pinned (OpenSpec.ofChange debtFirstWrong)

/-- 'airchecklaw14.DebtDeadlines': WHATEVER THE INPUT: true; the input reads as it did. -/
def debtDeadlinesSpec : ChangeSpec := { name := "debtDeadlines", fn := fun _ => fun
  | [d1, d2, d3] => { results := [.lit (.bool true)], args := [d1, d2, d3] }
  | _ => none }
def debtDeadlinesRow : OpenClaim := { program := "ytgdmaadikcnagaadoor", sum := "6761c306809c5af9f21b6ef1f84a5347de9d6563dd761ed26129a656794dbe25", func := "aircheck/airchecklaw14.DebtDeadlines", spec := "debtDeadlines", unfollowed := true, recurses := true, named := ["aircheck/debt.kinds", "aircheck/contract.tests"], plainKeys := false, apart := false, laid := [("aircheck/contract.tests", laid_aircheck_contract_tests), ("aircheck/debt.kinds", laid_aircheck_debt_kinds)] }
def DebtDeadlinesSaid : Prop := debtDeadlinesRow.holds Tryd.pinned (OpenSpec.ofChange debtDeadlinesSpec)

/-- ITS FALSE NEIGHBOUR: 'it returns false'. Refute it at one input. -/
def debtDeadlinesWrong : ChangeSpec := { name := "debtDeadlines", fn := fun _ => fun
  | [d1, d2, d3] => { results := [.lit (.bool false)], args := [d1, d2, d3] }
  | _ => none }
def DebtDeadlinesWrongFalsely : Prop := debtDeadlinesRow.holds Tryd.pinned (OpenSpec.ofChange debtDeadlinesWrong)

/-- 'airchecklaw14.DebtCertificates': WHATEVER THE INPUT: true; the input reads as it did. -/
def debtCertificatesSpec : ChangeSpec := { name := "debtCertificates", fn := fun _ => fun
  | [d1, d2, d3, d4, d5, d6, d7] => { results := [.lit (.bool true)], args := [d1, d2, d3, d4, d5, d6, d7] }
  | _ => none }
def debtCertificatesRow : OpenClaim := { program := "ytgdmaadikcnagaadoor", sum := "6761c306809c5af9f21b6ef1f84a5347de9d6563dd761ed26129a656794dbe25", func := "aircheck/airchecklaw14.DebtCertificates", spec := "debtCertificates", unfollowed := true, recurses := true, named := ["aircheck/debt.kinds", "aircheck/contract.tests"], plainKeys := false, apart := false, laid := [("aircheck/contract.tests", laid_aircheck_contract_tests), ("aircheck/debt.kinds", laid_aircheck_debt_kinds)] }
def DebtCertificatesSaid : Prop := debtCertificatesRow.holds Tryd.pinned (OpenSpec.ofChange debtCertificatesSpec)

/-- ITS FALSE NEIGHBOUR: 'it returns false'. Refute it at one input. -/
def debtCertificatesWrong : ChangeSpec := { name := "debtCertificates", fn := fun _ => fun
  | [d1, d2, d3, d4, d5, d6, d7] => { results := [.lit (.bool false)], args := [d1, d2, d3, d4, d5, d6, d7] }
  | _ => none }
def DebtCertificatesWrongFalsely : Prop := debtCertificatesRow.holds Tryd.pinned (OpenSpec.ofChange debtCertificatesWrong)

/-- 'airchecklaw14.DebtMost': WHATEVER THE INPUT: true; the input reads as it did. -/
def debtMostSpec : ChangeSpec := { name := "debtMost", fn := fun _ => fun
  | [d1, d2, d3, d4] => { results := [.lit (.bool true)], args := [d1, d2, d3, d4] }
  | _ => none }
def debtMostRow : OpenClaim := { program := "ytgdmaadikcnagaadoor", sum := "6761c306809c5af9f21b6ef1f84a5347de9d6563dd761ed26129a656794dbe25", func := "aircheck/airchecklaw14.DebtMost", spec := "debtMost", unfollowed := true, recurses := true, named := ["aircheck/debt.kinds", "aircheck/contract.tests"], plainKeys := false, apart := false, laid := [("aircheck/contract.tests", laid_aircheck_contract_tests), ("aircheck/debt.kinds", laid_aircheck_debt_kinds)] }
def DebtMostSaid : Prop := debtMostRow.holds Tryd.pinned (OpenSpec.ofChange debtMostSpec)

/-- ITS FALSE NEIGHBOUR: 'it returns false'. Refute it at one input. -/
def debtMostWrong : ChangeSpec := { name := "debtMost", fn := fun _ => fun
  | [d1, d2, d3, d4] => { results := [.lit (.bool false)], args := [d1, d2, d3, d4] }
  | _ => none }
def DebtMostWrongFalsely : Prop := debtMostRow.holds Tryd.pinned (OpenSpec.ofChange debtMostWrong)

/-- 'airchecklaw14.DebtRoom': WHATEVER THE INPUT: true; the input reads as it did. -/
def debtRoomSpec : ChangeSpec := { name := "debtRoom", fn := fun _ => fun
  | [d1, d2, d3, d4, d5, d6] => { results := [.lit (.bool true)], args := [d1, d2, d3, d4, d5, d6] }
  | _ => none }
def debtRoomRow : OpenClaim := { program := "ytgdmaadikcnagaadoor", sum := "6761c306809c5af9f21b6ef1f84a5347de9d6563dd761ed26129a656794dbe25", func := "aircheck/airchecklaw14.DebtRoom", spec := "debtRoom", unfollowed := true, recurses := true, named := ["aircheck/debt.kinds", "aircheck/contract.tests"], plainKeys := false, apart := false, laid := [("aircheck/contract.tests", laid_aircheck_contract_tests), ("aircheck/debt.kinds", laid_aircheck_debt_kinds)] }
def DebtRoomSaid : Prop := debtRoomRow.holds Tryd.pinned (OpenSpec.ofChange debtRoomSpec)

/-- ITS FALSE NEIGHBOUR: 'it returns false'. Refute it at one input. -/
def debtRoomWrong : ChangeSpec := { name := "debtRoom", fn := fun _ => fun
  | [d1, d2, d3, d4, d5, d6] => { results := [.lit (.bool false)], args := [d1, d2, d3, d4, d5, d6] }
  | _ => none }
def DebtRoomWrongFalsely : Prop := debtRoomRow.holds Tryd.pinned (OpenSpec.ofChange debtRoomWrong)

/-- 'airchecklaw14.DebtPromised': WHATEVER THE INPUT: true; the input reads as it did. -/
def debtPromisedSpec : ChangeSpec := { name := "debtPromised", fn := fun _ => fun
  | [d1, d2, d3, d4] => { results := [.lit (.bool true)], args := [d1, d2, d3, d4] }
  | _ => none }
def debtPromisedRow : OpenClaim := { program := "ytgdmaadikcnagaadoor", sum := "6761c306809c5af9f21b6ef1f84a5347de9d6563dd761ed26129a656794dbe25", func := "aircheck/airchecklaw14.DebtPromised", spec := "debtPromised", unfollowed := true, recurses := true, named := ["aircheck/debt.kinds", "aircheck/contract.tests"], plainKeys := false, apart := false, laid := [("aircheck/contract.tests", laid_aircheck_contract_tests), ("aircheck/debt.kinds", laid_aircheck_debt_kinds)] }
def DebtPromisedSaid : Prop := debtPromisedRow.holds Tryd.pinned (OpenSpec.ofChange debtPromisedSpec)

/-- ITS FALSE NEIGHBOUR: 'it returns false'. Refute it at one input. -/
def debtPromisedWrong : ChangeSpec := { name := "debtPromised", fn := fun _ => fun
  | [d1, d2, d3, d4] => { results := [.lit (.bool false)], args := [d1, d2, d3, d4] }
  | _ => none }
def DebtPromisedWrongFalsely : Prop := debtPromisedRow.holds Tryd.pinned (OpenSpec.ofChange debtPromisedWrong)

/- THE SECOND FORM. 'bulk': how many values and letters a reading holds, each counted each time it is reached (what is shared counts as often as it is met; a slice's spare places count too). A statement '..UptoSaid' is the law's where the arguments, and the package variables that the reading takes, are together of bulk at most 1048576: NARROWER than '..Said'. Prove '..Said' where nothing that the law and all that it calls make is longer than what came in: it says more and counts as full. Else prove '..UptoSaid'. A law counts once. -/
mutual
def uptoBulk {H : Type} : DataW H → Nat
  | .lit (.string bytes) => bytes.length + 1
  | .lit _ => 1
  | .nil => 1
  | .ptr d => uptoBulk d + 1
  | .slice elems spare => uptoBulkAll elems + uptoBulkAll spare + 1
  | .agg parts => uptoBulkAll parts + 1
  | .iface _ d => uptoBulk d + 1
  | .map entries => uptoBulkEntries entries + 1
  | .held _ => 1
def uptoBulkAll {H : Type} : List (DataW H) → Nat
  | [] => 0
  | d :: r => uptoBulk d + uptoBulkAll r
def uptoBulkEntries {H : Type} : List (Lit × DataW H) → Nat
  | [] => 0
  | x :: r => uptoBulkEntry x + uptoBulkEntries r
def uptoBulkEntry {H : Type} : Lit × DataW H → Nat
  | (.string bytes, d) => bytes.length + uptoBulk d + 1
  | (_, d) => uptoBulk d + 1
 end
def uptoSmall : (H : Type) → List (DataW H) → Bool := fun _ ds => decide (uptoBulkAll ds ≤ 1048576)
def OpenSpec.upto (s : _root_.Go.ChangeSpec) : _root_.Go.OpenSpec := { _root_.Go.OpenSpec.ofChange s with cond := some uptoSmall }

/-- 'airchecklaw14.DebtLost', WHERE WHAT IT READS IS OF BULK AT MOST 1048576: true; the input reads as it did. -/
def debtLostUptoRow : OpenClaim := { program := "ytgdmaadikcnagaadoor", sum := "6761c306809c5af9f21b6ef1f84a5347de9d6563dd761ed26129a656794dbe25", func := "aircheck/airchecklaw14.DebtLost", spec := "debtLost", unfollowed := true, recurses := true, named := ["aircheck/debt.kinds", "aircheck/contract.tests"], plainKeys := false, apart := false, laid := [("aircheck/contract.tests", laid_aircheck_contract_tests), ("aircheck/debt.kinds", laid_aircheck_debt_kinds)], narrowed := true }
def DebtLostUptoSaid : Prop := debtLostUptoRow.holds Tryd.pinned (OpenSpec.upto debtLostSpec)

/-- 'airchecklaw14.DebtFirst', WHERE WHAT IT READS IS OF BULK AT MOST 1048576: true; the input reads as it did. -/
def debtFirstUptoRow : OpenClaim := { program := "ytgdmaadikcnagaadoor", sum := "6761c306809c5af9f21b6ef1f84a5347de9d6563dd761ed26129a656794dbe25", func := "aircheck/airchecklaw14.DebtFirst", spec := "debtFirst", unfollowed := true, recurses := true, named := ["aircheck/debt.kinds", "aircheck/contract.tests"], plainKeys := false, apart := false, laid := [("aircheck/contract.tests", laid_aircheck_contract_tests), ("aircheck/debt.kinds", laid_aircheck_debt_kinds)], narrowed := true }
def DebtFirstUptoSaid : Prop := debtFirstUptoRow.holds Tryd.pinned (OpenSpec.upto debtFirstSpec)

/-- 'airchecklaw14.DebtDeadlines', WHERE WHAT IT READS IS OF BULK AT MOST 1048576: true; the input reads as it did. -/
def debtDeadlinesUptoRow : OpenClaim := { program := "ytgdmaadikcnagaadoor", sum := "6761c306809c5af9f21b6ef1f84a5347de9d6563dd761ed26129a656794dbe25", func := "aircheck/airchecklaw14.DebtDeadlines", spec := "debtDeadlines", unfollowed := true, recurses := true, named := ["aircheck/debt.kinds", "aircheck/contract.tests"], plainKeys := false, apart := false, laid := [("aircheck/contract.tests", laid_aircheck_contract_tests), ("aircheck/debt.kinds", laid_aircheck_debt_kinds)], narrowed := true }
def DebtDeadlinesUptoSaid : Prop := debtDeadlinesUptoRow.holds Tryd.pinned (OpenSpec.upto debtDeadlinesSpec)

/-- 'airchecklaw14.DebtCertificates', WHERE WHAT IT READS IS OF BULK AT MOST 1048576: true; the input reads as it did. -/
def debtCertificatesUptoRow : OpenClaim := { program := "ytgdmaadikcnagaadoor", sum := "6761c306809c5af9f21b6ef1f84a5347de9d6563dd761ed26129a656794dbe25", func := "aircheck/airchecklaw14.DebtCertificates", spec := "debtCertificates", unfollowed := true, recurses := true, named := ["aircheck/debt.kinds", "aircheck/contract.tests"], plainKeys := false, apart := false, laid := [("aircheck/contract.tests", laid_aircheck_contract_tests), ("aircheck/debt.kinds", laid_aircheck_debt_kinds)], narrowed := true }
def DebtCertificatesUptoSaid : Prop := debtCertificatesUptoRow.holds Tryd.pinned (OpenSpec.upto debtCertificatesSpec)

/-- 'airchecklaw14.DebtMost', WHERE WHAT IT READS IS OF BULK AT MOST 1048576: true; the input reads as it did. -/
def debtMostUptoRow : OpenClaim := { program := "ytgdmaadikcnagaadoor", sum := "6761c306809c5af9f21b6ef1f84a5347de9d6563dd761ed26129a656794dbe25", func := "aircheck/airchecklaw14.DebtMost", spec := "debtMost", unfollowed := true, recurses := true, named := ["aircheck/debt.kinds", "aircheck/contract.tests"], plainKeys := false, apart := false, laid := [("aircheck/contract.tests", laid_aircheck_contract_tests), ("aircheck/debt.kinds", laid_aircheck_debt_kinds)], narrowed := true }
def DebtMostUptoSaid : Prop := debtMostUptoRow.holds Tryd.pinned (OpenSpec.upto debtMostSpec)

/-- 'airchecklaw14.DebtRoom', WHERE WHAT IT READS IS OF BULK AT MOST 1048576: true; the input reads as it did. -/
def debtRoomUptoRow : OpenClaim := { program := "ytgdmaadikcnagaadoor", sum := "6761c306809c5af9f21b6ef1f84a5347de9d6563dd761ed26129a656794dbe25", func := "aircheck/airchecklaw14.DebtRoom", spec := "debtRoom", unfollowed := true, recurses := true, named := ["aircheck/debt.kinds", "aircheck/contract.tests"], plainKeys := false, apart := false, laid := [("aircheck/contract.tests", laid_aircheck_contract_tests), ("aircheck/debt.kinds", laid_aircheck_debt_kinds)], narrowed := true }
def DebtRoomUptoSaid : Prop := debtRoomUptoRow.holds Tryd.pinned (OpenSpec.upto debtRoomSpec)

/-- 'airchecklaw14.DebtPromised', WHERE WHAT IT READS IS OF BULK AT MOST 1048576: true; the input reads as it did. -/
def debtPromisedUptoRow : OpenClaim := { program := "ytgdmaadikcnagaadoor", sum := "6761c306809c5af9f21b6ef1f84a5347de9d6563dd761ed26129a656794dbe25", func := "aircheck/airchecklaw14.DebtPromised", spec := "debtPromised", unfollowed := true, recurses := true, named := ["aircheck/debt.kinds", "aircheck/contract.tests"], plainKeys := false, apart := false, laid := [("aircheck/contract.tests", laid_aircheck_contract_tests), ("aircheck/debt.kinds", laid_aircheck_debt_kinds)], narrowed := true }
def DebtPromisedUptoSaid : Prop := debtPromisedUptoRow.holds Tryd.pinned (OpenSpec.upto debtPromisedSpec)

end Rows
end Go.Proofs.YtgdmaadikcnagaaDoor
