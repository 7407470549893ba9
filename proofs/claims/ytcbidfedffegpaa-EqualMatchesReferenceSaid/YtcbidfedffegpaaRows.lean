/-
  No cell of these rows narrows 'for every input' (looked for: loops, veiled, ifaces, maps, wideKeys, modest, calm, conditions, laid).
  DERIVED. THE GIVEN ROWS OF THIS SEAT. 7 by the template 'for every input the law returns true; each argument reads behind the call as it read before'; 0 by the template 'total and deterministic' (their statements: YtcbidfedffegpaaTotals.lean).
  GIVEN WITH THE SEED: the statements are not yours to turn. If you find one false, say at which input.
  Laid BY PROGRAM, IN A SANDBOX (cutbox-rows.mjs): the forced cells as the released guide's own fill.sh prints them over the translation a25ad5edfa6e4bcd… (all of the seat's roots in one cut). By AI agents, Wed Nov 11 2026. No macro, syntax, notation, axiom, sorry.
-/
import Derived.Test.YtcbidfedffegpaaChecked
import GoSem.Claim
import GoSem.ClaimJoined
import GoSem.ClaimMapViews
import Derived.JoinedTies
import Derived.KernelRfl
namespace Go.Proofs.Ytcbidfedffegpaa
/- THE CELL 'sum', in the pinned program and in every row, IS THE sha256 OF THE DUMP (.gsa) THAT YtcbidfedffegpaaProg.lean LOADS. Nothing in Lean hashes anything: it is a label: what it is worth is what the hold of that sum in a sandbox is worth. -/
noncomputable def Try.pinned : Pinned := { name := "ytcbidfedffegpaa", sum := "a25ad5edfa6e4bcd25e190376082b9d75b300dea15cb6a836672d6fd60d962ca", checked := Try.checked }
namespace Rows
def none {H : Type} : Left H := { results := [], args := [] }

/-- 'airchecklaw13.EqualMatchesReference': WHATEVER THE INPUT: true; the input reads as it did. -/
def equalMatchesReferenceSpec : ChangeSpec := { name := "equalMatchesReference", fn := fun _ => fun
  | [d1, d2, d3, d4] => { results := [.lit (.bool true)], args := [d1, d2, d3, d4] }
  | _ => none }
def equalMatchesReferenceRow : OpenClaim := { program := "ytcbidfedffegpaa", sum := "a25ad5edfa6e4bcd25e190376082b9d75b300dea15cb6a836672d6fd60d962ca", func := "aircheck/airchecklaw13.EqualMatchesReference", spec := "equalMatchesReference", unfollowed := true, recurses := true, apart := false }
def EqualMatchesReferenceSaid : Prop := equalMatchesReferenceRow.holds Try.pinned (OpenSpec.ofChange equalMatchesReferenceSpec)

/-- ITS FALSE NEIGHBOUR: 'it returns false'. Refute it at one input. -/
def equalMatchesReferenceWrong : ChangeSpec := { name := "equalMatchesReference", fn := fun _ => fun
  | [d1, d2, d3, d4] => { results := [.lit (.bool false)], args := [d1, d2, d3, d4] }
  | _ => none }
def EqualMatchesReferenceWrongFalsely : Prop := equalMatchesReferenceRow.holds Try.pinned (OpenSpec.ofChange equalMatchesReferenceWrong)

/-- 'airchecklaw13.EqualLevels': WHATEVER THE INPUT: true; the input reads as it did. -/
def equalLevelsSpec : ChangeSpec := { name := "equalLevels", fn := fun _ => fun
  | [d1, d2, d3] => { results := [.lit (.bool true)], args := [d1, d2, d3] }
  | _ => none }
def equalLevelsRow : OpenClaim := { program := "ytcbidfedffegpaa", sum := "a25ad5edfa6e4bcd25e190376082b9d75b300dea15cb6a836672d6fd60d962ca", func := "aircheck/airchecklaw13.EqualLevels", spec := "equalLevels", unfollowed := true, recurses := true, apart := false }
def EqualLevelsSaid : Prop := equalLevelsRow.holds Try.pinned (OpenSpec.ofChange equalLevelsSpec)

/-- ITS FALSE NEIGHBOUR: 'it returns false'. Refute it at one input. -/
def equalLevelsWrong : ChangeSpec := { name := "equalLevels", fn := fun _ => fun
  | [d1, d2, d3] => { results := [.lit (.bool false)], args := [d1, d2, d3] }
  | _ => none }
def EqualLevelsWrongFalsely : Prop := equalLevelsRow.holds Try.pinned (OpenSpec.ofChange equalLevelsWrong)

/-- 'airchecklaw13.EqualOrders': WHATEVER THE INPUT: true; the input reads as it did. -/
def equalOrdersSpec : ChangeSpec := { name := "equalOrders", fn := fun _ => fun
  | [d1, d2, d3] => { results := [.lit (.bool true)], args := [d1, d2, d3] }
  | _ => none }
def equalOrdersRow : OpenClaim := { program := "ytcbidfedffegpaa", sum := "a25ad5edfa6e4bcd25e190376082b9d75b300dea15cb6a836672d6fd60d962ca", func := "aircheck/airchecklaw13.EqualOrders", spec := "equalOrders", unfollowed := true, recurses := true, apart := false }
def EqualOrdersSaid : Prop := equalOrdersRow.holds Try.pinned (OpenSpec.ofChange equalOrdersSpec)

/-- ITS FALSE NEIGHBOUR: 'it returns false'. Refute it at one input. -/
def equalOrdersWrong : ChangeSpec := { name := "equalOrders", fn := fun _ => fun
  | [d1, d2, d3] => { results := [.lit (.bool false)], args := [d1, d2, d3] }
  | _ => none }
def EqualOrdersWrongFalsely : Prop := equalOrdersRow.holds Try.pinned (OpenSpec.ofChange equalOrdersWrong)

/-- 'airchecklaw13.EqualOldest': WHATEVER THE INPUT: true; the input reads as it did. -/
def equalOldestSpec : ChangeSpec := { name := "equalOldest", fn := fun _ => fun
  | [d1, d2, d3] => { results := [.lit (.bool true)], args := [d1, d2, d3] }
  | _ => none }
def equalOldestRow : OpenClaim := { program := "ytcbidfedffegpaa", sum := "a25ad5edfa6e4bcd25e190376082b9d75b300dea15cb6a836672d6fd60d962ca", func := "aircheck/airchecklaw13.EqualOldest", spec := "equalOldest", unfollowed := true, recurses := true, apart := false }
def EqualOldestSaid : Prop := equalOldestRow.holds Try.pinned (OpenSpec.ofChange equalOldestSpec)

/-- ITS FALSE NEIGHBOUR: 'it returns false'. Refute it at one input. -/
def equalOldestWrong : ChangeSpec := { name := "equalOldest", fn := fun _ => fun
  | [d1, d2, d3] => { results := [.lit (.bool false)], args := [d1, d2, d3] }
  | _ => none }
def EqualOldestWrongFalsely : Prop := equalOldestRow.holds Try.pinned (OpenSpec.ofChange equalOldestWrong)

/-- 'airchecklaw13.EqualServes': WHATEVER THE INPUT: true; the input reads as it did. -/
def equalServesSpec : ChangeSpec := { name := "equalServes", fn := fun _ => fun
  | [d1, d2] => { results := [.lit (.bool true)], args := [d1, d2] }
  | _ => none }
def equalServesRow : OpenClaim := { program := "ytcbidfedffegpaa", sum := "a25ad5edfa6e4bcd25e190376082b9d75b300dea15cb6a836672d6fd60d962ca", func := "aircheck/airchecklaw13.EqualServes", spec := "equalServes", unfollowed := true, recurses := true, apart := false }
def EqualServesSaid : Prop := equalServesRow.holds Try.pinned (OpenSpec.ofChange equalServesSpec)

/-- ITS FALSE NEIGHBOUR: 'it returns false'. Refute it at one input. -/
def equalServesWrong : ChangeSpec := { name := "equalServes", fn := fun _ => fun
  | [d1, d2] => { results := [.lit (.bool false)], args := [d1, d2] }
  | _ => none }
def EqualServesWrongFalsely : Prop := equalServesRow.holds Try.pinned (OpenSpec.ofChange equalServesWrong)

/-- 'airchecklaw13.EqualLater': WHATEVER THE INPUT: true; the input reads as it did. -/
def equalLaterSpec : ChangeSpec := { name := "equalLater", fn := fun _ => fun
  | [d1, d2, d3, d4] => { results := [.lit (.bool true)], args := [d1, d2, d3, d4] }
  | _ => none }
def equalLaterRow : OpenClaim := { program := "ytcbidfedffegpaa", sum := "a25ad5edfa6e4bcd25e190376082b9d75b300dea15cb6a836672d6fd60d962ca", func := "aircheck/airchecklaw13.EqualLater", spec := "equalLater", unfollowed := true, recurses := true, apart := false }
def EqualLaterSaid : Prop := equalLaterRow.holds Try.pinned (OpenSpec.ofChange equalLaterSpec)

/-- ITS FALSE NEIGHBOUR: 'it returns false'. Refute it at one input. -/
def equalLaterWrong : ChangeSpec := { name := "equalLater", fn := fun _ => fun
  | [d1, d2, d3, d4] => { results := [.lit (.bool false)], args := [d1, d2, d3, d4] }
  | _ => none }
def EqualLaterWrongFalsely : Prop := equalLaterRow.holds Try.pinned (OpenSpec.ofChange equalLaterWrong)

/-- 'airchecklaw13.EqualDivides': WHATEVER THE INPUT: true; the input reads as it did. -/
def equalDividesSpec : ChangeSpec := { name := "equalDivides", fn := fun _ => fun
  | [d1, d2, d3, d4] => { results := [.lit (.bool true)], args := [d1, d2, d3, d4] }
  | _ => none }
def equalDividesRow : OpenClaim := { program := "ytcbidfedffegpaa", sum := "a25ad5edfa6e4bcd25e190376082b9d75b300dea15cb6a836672d6fd60d962ca", func := "aircheck/airchecklaw13.EqualDivides", spec := "equalDivides", unfollowed := true, recurses := true, apart := false }
def EqualDividesSaid : Prop := equalDividesRow.holds Try.pinned (OpenSpec.ofChange equalDividesSpec)

/-- ITS FALSE NEIGHBOUR: 'it returns false'. Refute it at one input. -/
def equalDividesWrong : ChangeSpec := { name := "equalDivides", fn := fun _ => fun
  | [d1, d2, d3, d4] => { results := [.lit (.bool false)], args := [d1, d2, d3, d4] }
  | _ => none }
def EqualDividesWrongFalsely : Prop := equalDividesRow.holds Try.pinned (OpenSpec.ofChange equalDividesWrong)

/- THE SECOND FORM. 'bulk': how many values and letters a reading holds, each counted each time it is reached (what is shared counts as often as it is met; a slice's spare places count too). A statement '..UptoSaid' is the law's where the arguments, and the package variables that the reading takes, are together of bulk at most 1048576: NARROWER than '..Said'. Prove '..Said' where nothing that the law and all that it calls make is longer than what came in: it says more and counts as full. Else prove '..UptoSaid'. A law counts once. -/
mutual
def uptoBulk {H : Type} : DataW H → Nat
  | .lit (.string bytes) => bytes.length + 1
  | .lit _ => 1
  | .nil => 1
  | .ptr d => uptoBulk d + 1
  | .slice elems spare => uptoBulkAll elems + uptoBulkAll spare + 1
  | .agg parts => uptoBulkAll parts + 1
  | .iface _ d => uptoBulk d + 1
  | .map entries => uptoBulkEntries entries + 1
  | .held _ => 1
def uptoBulkAll {H : Type} : List (DataW H) → Nat
  | [] => 0
  | d :: r => uptoBulk d + uptoBulkAll r
def uptoBulkEntries {H : Type} : List (Lit × DataW H) → Nat
  | [] => 0
  | x :: r => uptoBulkEntry x + uptoBulkEntries r
def uptoBulkEntry {H : Type} : Lit × DataW H → Nat
  | (.string bytes, d) => bytes.length + uptoBulk d + 1
  | (_, d) => uptoBulk d + 1
 end
def uptoSmall : (H : Type) → List (DataW H) → Bool := fun _ ds => decide (uptoBulkAll ds ≤ 1048576)
def OpenSpec.upto (s : _root_.Go.ChangeSpec) : _root_.Go.OpenSpec := { _root_.Go.OpenSpec.ofChange s with cond := some uptoSmall }

/-- 'airchecklaw13.EqualMatchesReference', WHERE WHAT IT READS IS OF BULK AT MOST 1048576: true; the input reads as it did. -/
def equalMatchesReferenceUptoRow : OpenClaim := { program := "ytcbidfedffegpaa", sum := "a25ad5edfa6e4bcd25e190376082b9d75b300dea15cb6a836672d6fd60d962ca", func := "aircheck/airchecklaw13.EqualMatchesReference", spec := "equalMatchesReference", unfollowed := true, recurses := true, apart := false, narrowed := true }
def EqualMatchesReferenceUptoSaid : Prop := equalMatchesReferenceUptoRow.holds Try.pinned (OpenSpec.upto equalMatchesReferenceSpec)

/-- 'airchecklaw13.EqualLevels', WHERE WHAT IT READS IS OF BULK AT MOST 1048576: true; the input reads as it did. -/
def equalLevelsUptoRow : OpenClaim := { program := "ytcbidfedffegpaa", sum := "a25ad5edfa6e4bcd25e190376082b9d75b300dea15cb6a836672d6fd60d962ca", func := "aircheck/airchecklaw13.EqualLevels", spec := "equalLevels", unfollowed := true, recurses := true, apart := false, narrowed := true }
def EqualLevelsUptoSaid : Prop := equalLevelsUptoRow.holds Try.pinned (OpenSpec.upto equalLevelsSpec)

/-- 'airchecklaw13.EqualOrders', WHERE WHAT IT READS IS OF BULK AT MOST 1048576: true; the input reads as it did. -/
def equalOrdersUptoRow : OpenClaim := { program := "ytcbidfedffegpaa", sum := "a25ad5edfa6e4bcd25e190376082b9d75b300dea15cb6a836672d6fd60d962ca", func := "aircheck/airchecklaw13.EqualOrders", spec := "equalOrders", unfollowed := true, recurses := true, apart := false, narrowed := true }
def EqualOrdersUptoSaid : Prop := equalOrdersUptoRow.holds Try.pinned (OpenSpec.upto equalOrdersSpec)

/-- 'airchecklaw13.EqualOldest', WHERE WHAT IT READS IS OF BULK AT MOST 1048576: true; the input reads as it did. -/
def equalOldestUptoRow : OpenClaim := { program := "ytcbidfedffegpaa", sum := "a25ad5edfa6e4bcd25e190376082b9d75b300dea15cb6a836672d6fd60d962ca", func := "aircheck/airchecklaw13.EqualOldest", spec := "equalOldest", unfollowed := true, recurses := true, apart := false, narrowed := true }
def EqualOldestUptoSaid : Prop := equalOldestUptoRow.holds Try.pinned (OpenSpec.upto equalOldestSpec)

/-- 'airchecklaw13.EqualServes', WHERE WHAT IT READS IS OF BULK AT MOST 1048576: true; the input reads as it did. -/
def equalServesUptoRow : OpenClaim := { program := "ytcbidfedffegpaa", sum := "a25ad5edfa6e4bcd25e190376082b9d75b300dea15cb6a836672d6fd60d962ca", func := "aircheck/airchecklaw13.EqualServes", spec := "equalServes", unfollowed := true, recurses := true, apart := false, narrowed := true }
def EqualServesUptoSaid : Prop := equalServesUptoRow.holds Try.pinned (OpenSpec.upto equalServesSpec)

/-- 'airchecklaw13.EqualLater', WHERE WHAT IT READS IS OF BULK AT MOST 1048576: true; the input reads as it did. -/
def equalLaterUptoRow : OpenClaim := { program := "ytcbidfedffegpaa", sum := "a25ad5edfa6e4bcd25e190376082b9d75b300dea15cb6a836672d6fd60d962ca", func := "aircheck/airchecklaw13.EqualLater", spec := "equalLater", unfollowed := true, recurses := true, apart := false, narrowed := true }
def EqualLaterUptoSaid : Prop := equalLaterUptoRow.holds Try.pinned (OpenSpec.upto equalLaterSpec)

/-- 'airchecklaw13.EqualDivides', WHERE WHAT IT READS IS OF BULK AT MOST 1048576: true; the input reads as it did. -/
def equalDividesUptoRow : OpenClaim := { program := "ytcbidfedffegpaa", sum := "a25ad5edfa6e4bcd25e190376082b9d75b300dea15cb6a836672d6fd60d962ca", func := "aircheck/airchecklaw13.EqualDivides", spec := "equalDivides", unfollowed := true, recurses := true, apart := false, narrowed := true }
def EqualDividesUptoSaid : Prop := equalDividesUptoRow.holds Try.pinned (OpenSpec.upto equalDividesSpec)

end Rows
end Go.Proofs.Ytcbidfedffegpaa
