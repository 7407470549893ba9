/-
  No cell of these rows narrows 'for every input' (looked for: loops, veiled, ifaces, maps, wideKeys, modest, calm, conditions, laid).
  DERIVED. THE GIVEN ROWS OF THIS SEAT. 7 by the template 'for every input the law returns true; each argument reads behind the call as it read before'; 0 by the template 'total and deterministic' (their statements: YtfdjnadopniaeaaTotals.lean).
  GIVEN WITH THE SEED: the statements are not yours to turn. If you find one false, say at which input.
  Laid BY PROGRAM, IN A SANDBOX (cutbox-rows.mjs): the forced cells as the released guide's own fill.sh prints them over the translation 04b6ece0b8668497… (all of the seat's roots in one cut). By AI agents, Wed Nov 11 2026. No macro, syntax, notation, axiom, sorry.
-/
import Derived.Test.YtfdjnadopniaeaaChecked
import GoSem.Claim
import GoSem.ClaimJoined
import GoSem.ClaimMapViews
import Derived.JoinedTies
import Derived.KernelRfl
namespace Go.Proofs.Ytfdjnadopniaeaa
/- THE CELL 'sum', in the pinned program and in every row, IS THE sha256 OF THE DUMP (.gsa) THAT YtfdjnadopniaeaaProg.lean LOADS. Nothing in Lean hashes anything: it is a label: what it is worth is what the hold of that sum in a sandbox is worth. -/
noncomputable def Try.pinned : Pinned := { name := "ytfdjnadopniaeaa", sum := "04b6ece0b8668497375a46201c65dece727439fb9db20e3d48d719951b0c73a1", checked := Try.checked }
namespace Rows
def none {H : Type} : Left H := { results := [], args := [] }

/-- 'airchecklaw08.RightsMatchesReference': WHATEVER THE INPUT: true; the input reads as it did. -/
def rightsMatchesReferenceSpec : ChangeSpec := { name := "rightsMatchesReference", fn := fun _ => fun
  | [d1, d2, d3, d4, d5, d6, d7] => { results := [.lit (.bool true)], args := [d1, d2, d3, d4, d5, d6, d7] }
  | _ => none }
def rightsMatchesReferenceRow : OpenClaim := { program := "ytfdjnadopniaeaa", sum := "04b6ece0b8668497375a46201c65dece727439fb9db20e3d48d719951b0c73a1", func := "aircheck/airchecklaw08.RightsMatchesReference", spec := "rightsMatchesReference", unfollowed := true, recurses := true, apart := false }
def RightsMatchesReferenceSaid : Prop := rightsMatchesReferenceRow.holds Try.pinned (OpenSpec.ofChange rightsMatchesReferenceSpec)

/-- ITS FALSE NEIGHBOUR: 'it returns false'. Refute it at one input. -/
def rightsMatchesReferenceWrong : ChangeSpec := { name := "rightsMatchesReference", fn := fun _ => fun
  | [d1, d2, d3, d4, d5, d6, d7] => { results := [.lit (.bool false)], args := [d1, d2, d3, d4, d5, d6, d7] }
  | _ => none }
def RightsMatchesReferenceWrongFalsely : Prop := rightsMatchesReferenceRow.holds Try.pinned (OpenSpec.ofChange rightsMatchesReferenceWrong)

/-- 'airchecklaw08.RightsHall': WHATEVER THE INPUT: true; the input reads as it did. -/
def rightsHallSpec : ChangeSpec := { name := "rightsHall", fn := fun _ => fun
  | [d1, d2] => { results := [.lit (.bool true)], args := [d1, d2] }
  | _ => none }
def rightsHallRow : OpenClaim := { program := "ytfdjnadopniaeaa", sum := "04b6ece0b8668497375a46201c65dece727439fb9db20e3d48d719951b0c73a1", func := "aircheck/airchecklaw08.RightsHall", spec := "rightsHall", unfollowed := true, recurses := true, apart := false }
def RightsHallSaid : Prop := rightsHallRow.holds Try.pinned (OpenSpec.ofChange rightsHallSpec)

/-- ITS FALSE NEIGHBOUR: 'it returns false'. Refute it at one input. -/
def rightsHallWrong : ChangeSpec := { name := "rightsHall", fn := fun _ => fun
  | [d1, d2] => { results := [.lit (.bool false)], args := [d1, d2] }
  | _ => none }
def RightsHallWrongFalsely : Prop := rightsHallRow.holds Try.pinned (OpenSpec.ofChange rightsHallWrong)

/-- 'airchecklaw08.RightsFirst': WHATEVER THE INPUT: true; the input reads as it did. -/
def rightsFirstSpec : ChangeSpec := { name := "rightsFirst", fn := fun _ => fun
  | [d1, d2, d3, d4] => { results := [.lit (.bool true)], args := [d1, d2, d3, d4] }
  | _ => none }
def rightsFirstRow : OpenClaim := { program := "ytfdjnadopniaeaa", sum := "04b6ece0b8668497375a46201c65dece727439fb9db20e3d48d719951b0c73a1", func := "aircheck/airchecklaw08.RightsFirst", spec := "rightsFirst", unfollowed := true, recurses := true, apart := false }
def RightsFirstSaid : Prop := rightsFirstRow.holds Try.pinned (OpenSpec.ofChange rightsFirstSpec)

/-- ITS FALSE NEIGHBOUR: 'it returns false'. Refute it at one input. -/
def rightsFirstWrong : ChangeSpec := { name := "rightsFirst", fn := fun _ => fun
  | [d1, d2, d3, d4] => { results := [.lit (.bool false)], args := [d1, d2, d3, d4] }
  | _ => none }
def RightsFirstWrongFalsely : Prop := rightsFirstRow.holds Try.pinned (OpenSpec.ofChange rightsFirstWrong)

/-- 'airchecklaw08.RightsLeast': WHATEVER THE INPUT: true; the input reads as it did. -/
def rightsLeastSpec : ChangeSpec := { name := "rightsLeast", fn := fun _ => fun
  | [d1, d2, d3] => { results := [.lit (.bool true)], args := [d1, d2, d3] }
  | _ => none }
def rightsLeastRow : OpenClaim := { program := "ytfdjnadopniaeaa", sum := "04b6ece0b8668497375a46201c65dece727439fb9db20e3d48d719951b0c73a1", func := "aircheck/airchecklaw08.RightsLeast", spec := "rightsLeast", unfollowed := true, recurses := true, apart := false }
def RightsLeastSaid : Prop := rightsLeastRow.holds Try.pinned (OpenSpec.ofChange rightsLeastSpec)

/-- ITS FALSE NEIGHBOUR: 'it returns false'. Refute it at one input. -/
def rightsLeastWrong : ChangeSpec := { name := "rightsLeast", fn := fun _ => fun
  | [d1, d2, d3] => { results := [.lit (.bool false)], args := [d1, d2, d3] }
  | _ => none }
def RightsLeastWrongFalsely : Prop := rightsLeastRow.holds Try.pinned (OpenSpec.ofChange rightsLeastWrong)

/-- 'airchecklaw08.RightsWithdrawn': WHATEVER THE INPUT: true; the input reads as it did. -/
def rightsWithdrawnSpec : ChangeSpec := { name := "rightsWithdrawn", fn := fun _ => fun
  | [d1, d2, d3, d4, d5] => { results := [.lit (.bool true)], args := [d1, d2, d3, d4, d5] }
  | _ => none }
def rightsWithdrawnRow : OpenClaim := { program := "ytfdjnadopniaeaa", sum := "04b6ece0b8668497375a46201c65dece727439fb9db20e3d48d719951b0c73a1", func := "aircheck/airchecklaw08.RightsWithdrawn", spec := "rightsWithdrawn", unfollowed := true, recurses := true, apart := false }
def RightsWithdrawnSaid : Prop := rightsWithdrawnRow.holds Try.pinned (OpenSpec.ofChange rightsWithdrawnSpec)

/-- ITS FALSE NEIGHBOUR: 'it returns false'. Refute it at one input. -/
def rightsWithdrawnWrong : ChangeSpec := { name := "rightsWithdrawn", fn := fun _ => fun
  | [d1, d2, d3, d4, d5] => { results := [.lit (.bool false)], args := [d1, d2, d3, d4, d5] }
  | _ => none }
def RightsWithdrawnWrongFalsely : Prop := rightsWithdrawnRow.holds Try.pinned (OpenSpec.ofChange rightsWithdrawnWrong)

/-- 'airchecklaw08.RightsMore': WHATEVER THE INPUT: true; the input reads as it did. -/
def rightsMoreSpec : ChangeSpec := { name := "rightsMore", fn := fun _ => fun
  | [d1, d2, d3, d4] => { results := [.lit (.bool true)], args := [d1, d2, d3, d4] }
  | _ => none }
def rightsMoreRow : OpenClaim := { program := "ytfdjnadopniaeaa", sum := "04b6ece0b8668497375a46201c65dece727439fb9db20e3d48d719951b0c73a1", func := "aircheck/airchecklaw08.RightsMore", spec := "rightsMore", unfollowed := true, recurses := true, apart := false }
def RightsMoreSaid : Prop := rightsMoreRow.holds Try.pinned (OpenSpec.ofChange rightsMoreSpec)

/-- ITS FALSE NEIGHBOUR: 'it returns false'. Refute it at one input. -/
def rightsMoreWrong : ChangeSpec := { name := "rightsMore", fn := fun _ => fun
  | [d1, d2, d3, d4] => { results := [.lit (.bool false)], args := [d1, d2, d3, d4] }
  | _ => none }
def RightsMoreWrongFalsely : Prop := rightsMoreRow.holds Try.pinned (OpenSpec.ofChange rightsMoreWrong)

/-- 'airchecklaw08.RightsApart': WHATEVER THE INPUT: true; the input reads as it did. -/
def rightsApartSpec : ChangeSpec := { name := "rightsApart", fn := fun _ => fun
  | [d1, d2] => { results := [.lit (.bool true)], args := [d1, d2] }
  | _ => none }
def rightsApartRow : OpenClaim := { program := "ytfdjnadopniaeaa", sum := "04b6ece0b8668497375a46201c65dece727439fb9db20e3d48d719951b0c73a1", func := "aircheck/airchecklaw08.RightsApart", spec := "rightsApart", unfollowed := true, recurses := true, apart := false }
def RightsApartSaid : Prop := rightsApartRow.holds Try.pinned (OpenSpec.ofChange rightsApartSpec)

/-- ITS FALSE NEIGHBOUR: 'it returns false'. Refute it at one input. -/
def rightsApartWrong : ChangeSpec := { name := "rightsApart", fn := fun _ => fun
  | [d1, d2] => { results := [.lit (.bool false)], args := [d1, d2] }
  | _ => none }
def RightsApartWrongFalsely : Prop := rightsApartRow.holds Try.pinned (OpenSpec.ofChange rightsApartWrong)

/- THE SECOND FORM. 'bulk': how many values and letters a reading holds, each counted each time it is reached (what is shared counts as often as it is met; a slice's spare places count too). A statement '..UptoSaid' is the law's where the arguments, and the package variables that the reading takes, are together of bulk at most 1048576: NARROWER than '..Said'. Prove '..Said' where nothing that the law and all that it calls make is longer than what came in: it says more and counts as full. Else prove '..UptoSaid'. A law counts once. -/
mutual
def uptoBulk {H : Type} : DataW H → Nat
  | .lit (.string bytes) => bytes.length + 1
  | .lit _ => 1
  | .nil => 1
  | .ptr d => uptoBulk d + 1
  | .slice elems spare => uptoBulkAll elems + uptoBulkAll spare + 1
  | .agg parts => uptoBulkAll parts + 1
  | .iface _ d => uptoBulk d + 1
  | .map entries => uptoBulkEntries entries + 1
  | .held _ => 1
def uptoBulkAll {H : Type} : List (DataW H) → Nat
  | [] => 0
  | d :: r => uptoBulk d + uptoBulkAll r
def uptoBulkEntries {H : Type} : List (Lit × DataW H) → Nat
  | [] => 0
  | x :: r => uptoBulkEntry x + uptoBulkEntries r
def uptoBulkEntry {H : Type} : Lit × DataW H → Nat
  | (.string bytes, d) => bytes.length + uptoBulk d + 1
  | (_, d) => uptoBulk d + 1
 end
def uptoSmall : (H : Type) → List (DataW H) → Bool := fun _ ds => decide (uptoBulkAll ds ≤ 1048576)
def OpenSpec.upto (s : _root_.Go.ChangeSpec) : _root_.Go.OpenSpec := { _root_.Go.OpenSpec.ofChange s with cond := some uptoSmall }

/-- 'airchecklaw08.RightsMatchesReference', WHERE WHAT IT READS IS OF BULK AT MOST 1048576: true; the input reads as it did. -/
def rightsMatchesReferenceUptoRow : OpenClaim := { program := "ytfdjnadopniaeaa", sum := "04b6ece0b8668497375a46201c65dece727439fb9db20e3d48d719951b0c73a1", func := "aircheck/airchecklaw08.RightsMatchesReference", spec := "rightsMatchesReference", unfollowed := true, recurses := true, apart := false, narrowed := true }
def RightsMatchesReferenceUptoSaid : Prop := rightsMatchesReferenceUptoRow.holds Try.pinned (OpenSpec.upto rightsMatchesReferenceSpec)

/-- 'airchecklaw08.RightsHall', WHERE WHAT IT READS IS OF BULK AT MOST 1048576: true; the input reads as it did. -/
def rightsHallUptoRow : OpenClaim := { program := "ytfdjnadopniaeaa", sum := "04b6ece0b8668497375a46201c65dece727439fb9db20e3d48d719951b0c73a1", func := "aircheck/airchecklaw08.RightsHall", spec := "rightsHall", unfollowed := true, recurses := true, apart := false, narrowed := true }
def RightsHallUptoSaid : Prop := rightsHallUptoRow.holds Try.pinned (OpenSpec.upto rightsHallSpec)

/-- 'airchecklaw08.RightsFirst', WHERE WHAT IT READS IS OF BULK AT MOST 1048576: true; the input reads as it did. -/
def rightsFirstUptoRow : OpenClaim := { program := "ytfdjnadopniaeaa", sum := "04b6ece0b8668497375a46201c65dece727439fb9db20e3d48d719951b0c73a1", func := "aircheck/airchecklaw08.RightsFirst", spec := "rightsFirst", unfollowed := true, recurses := true, apart := false, narrowed := true }
def RightsFirstUptoSaid : Prop := rightsFirstUptoRow.holds Try.pinned (OpenSpec.upto rightsFirstSpec)

/-- 'airchecklaw08.RightsLeast', WHERE WHAT IT READS IS OF BULK AT MOST 1048576: true; the input reads as it did. -/
def rightsLeastUptoRow : OpenClaim := { program := "ytfdjnadopniaeaa", sum := "04b6ece0b8668497375a46201c65dece727439fb9db20e3d48d719951b0c73a1", func := "aircheck/airchecklaw08.RightsLeast", spec := "rightsLeast", unfollowed := true, recurses := true, apart := false, narrowed := true }
def RightsLeastUptoSaid : Prop := rightsLeastUptoRow.holds Try.pinned (OpenSpec.upto rightsLeastSpec)

/-- 'airchecklaw08.RightsWithdrawn', WHERE WHAT IT READS IS OF BULK AT MOST 1048576: true; the input reads as it did. -/
def rightsWithdrawnUptoRow : OpenClaim := { program := "ytfdjnadopniaeaa", sum := "04b6ece0b8668497375a46201c65dece727439fb9db20e3d48d719951b0c73a1", func := "aircheck/airchecklaw08.RightsWithdrawn", spec := "rightsWithdrawn", unfollowed := true, recurses := true, apart := false, narrowed := true }
def RightsWithdrawnUptoSaid : Prop := rightsWithdrawnUptoRow.holds Try.pinned (OpenSpec.upto rightsWithdrawnSpec)

/-- 'airchecklaw08.RightsMore', WHERE WHAT IT READS IS OF BULK AT MOST 1048576: true; the input reads as it did. -/
def rightsMoreUptoRow : OpenClaim := { program := "ytfdjnadopniaeaa", sum := "04b6ece0b8668497375a46201c65dece727439fb9db20e3d48d719951b0c73a1", func := "aircheck/airchecklaw08.RightsMore", spec := "rightsMore", unfollowed := true, recurses := true, apart := false, narrowed := true }
def RightsMoreUptoSaid : Prop := rightsMoreUptoRow.holds Try.pinned (OpenSpec.upto rightsMoreSpec)

/-- 'airchecklaw08.RightsApart', WHERE WHAT IT READS IS OF BULK AT MOST 1048576: true; the input reads as it did. -/
def rightsApartUptoRow : OpenClaim := { program := "ytfdjnadopniaeaa", sum := "04b6ece0b8668497375a46201c65dece727439fb9db20e3d48d719951b0c73a1", func := "aircheck/airchecklaw08.RightsApart", spec := "rightsApart", unfollowed := true, recurses := true, apart := false, narrowed := true }
def RightsApartUptoSaid : Prop := rightsApartUptoRow.holds Try.pinned (OpenSpec.upto rightsApartSpec)

end Rows
end Go.Proofs.Ytfdjnadopniaeaa
