/-
  DERIVED. GIVEN WITH THE SEED: THE CARDS: each row of YteplelijhkmbkaaDoorRows.lean that lists a variable, with what it lists TIED to the program's text (the seventh form; the later family's looks); each row that meets fmt, with fmt's text TOLD by the authors' own Lean function (tested against real Go, not proved from fmt's source: count such statements apart). THE CARD IS WHAT COUNTS. Prove the row's statement (the work); the ties are given (YteplelijhkmbkaaDoorTie.lean); close each card by the builder's one call (the guide's Derived/Test/ToyasCard.lean, 'card_holds'). Laid BY PROGRAM, IN A SANDBOX (cutbox-door.mjs). By AI agents, Wed Nov 11 2026. No macro, syntax, notation, axiom, sorry.
-/
import Derived.Test.YteplelijhkmbkaaDoorRows
import GoSem.ClaimSeven
namespace Go.Proofs.YteplelijhkmbkaaDoor
namespace Rows

/-- THE TIED CARD OF 'airchecklaw12.ContractMatchesReference'. -/
def contractMatchesReferenceCard : Claim7 := { stood := { row := contractMatchesReferenceRow, standIns := [], harness := (true, "2b1ac9f1e9f844c905ce01b9af2d7fd5db6bfac240c41601e7c4e8e6c5b43193"), looks := false }, kinds := [], alts := [], laidByText := true, laidKinds := [.funcs], laidTests := true, laidLooks := .later }
def ContractMatchesReferenceCardSaid : Prop := Claim7.holds Tryd.pinned (.plain (OpenSpec.ofChange contractMatchesReferenceSpec)) contractMatchesReferenceCard

/-- THE TIED CARD OF 'airchecklaw12.ContractBounds'. -/
def contractBoundsCard : Claim7 := { stood := { row := contractBoundsRow, standIns := [], harness := (true, "2b1ac9f1e9f844c905ce01b9af2d7fd5db6bfac240c41601e7c4e8e6c5b43193"), looks := false }, kinds := [], alts := [], laidByText := true, laidKinds := [.funcs], laidTests := true, laidLooks := .later }
def ContractBoundsCardSaid : Prop := Claim7.holds Tryd.pinned (.plain (OpenSpec.ofChange contractBoundsSpec)) contractBoundsCard

/-- THE TIED CARD OF 'airchecklaw12.ContractNothing'. -/
def contractNothingCard : Claim7 := { stood := { row := contractNothingRow, standIns := [], harness := (true, "2b1ac9f1e9f844c905ce01b9af2d7fd5db6bfac240c41601e7c4e8e6c5b43193"), looks := false }, kinds := [], alts := [], laidByText := true, laidKinds := [.funcs], laidTests := true, laidLooks := .later }
def ContractNothingCardSaid : Prop := Claim7.holds Tryd.pinned (.plain (OpenSpec.ofChange contractNothingSpec)) contractNothingCard

/-- THE TIED CARD OF 'airchecklaw12.ContractOrder'. -/
def contractOrderCard : Claim7 := { stood := { row := contractOrderRow, standIns := [], harness := (true, "2b1ac9f1e9f844c905ce01b9af2d7fd5db6bfac240c41601e7c4e8e6c5b43193"), looks := false }, kinds := [], alts := [], laidByText := true, laidKinds := [.funcs], laidTests := true, laidLooks := .later }
def ContractOrderCardSaid : Prop := Claim7.holds Tryd.pinned (.plain (OpenSpec.ofChange contractOrderSpec)) contractOrderCard

/-- THE TIED CARD OF 'airchecklaw12.ContractNext'. -/
def contractNextCard : Claim7 := { stood := { row := contractNextRow, standIns := [], harness := (true, "2b1ac9f1e9f844c905ce01b9af2d7fd5db6bfac240c41601e7c4e8e6c5b43193"), looks := false }, kinds := [], alts := [], laidByText := true, laidKinds := [.funcs], laidTests := true, laidLooks := .later }
def ContractNextCardSaid : Prop := Claim7.holds Tryd.pinned (.plain (OpenSpec.ofChange contractNextSpec)) contractNextCard

/-- THE TIED CARD OF 'airchecklaw12.ContractBefore'. -/
def contractBeforeCard : Claim7 := { stood := { row := contractBeforeRow, standIns := [], harness := (true, "2b1ac9f1e9f844c905ce01b9af2d7fd5db6bfac240c41601e7c4e8e6c5b43193"), looks := false }, kinds := [], alts := [], laidByText := true, laidKinds := [.funcs], laidTests := true, laidLooks := .later }
def ContractBeforeCardSaid : Prop := Claim7.holds Tryd.pinned (.plain (OpenSpec.ofChange contractBeforeSpec)) contractBeforeCard

/-- THE TIED CARD OF 'airchecklaw12.ContractMissing'. -/
def contractMissingCard : Claim7 := { stood := { row := contractMissingRow, standIns := [], harness := (true, "2b1ac9f1e9f844c905ce01b9af2d7fd5db6bfac240c41601e7c4e8e6c5b43193"), looks := false }, kinds := [], alts := [], laidByText := true, laidKinds := [.funcs], laidTests := true, laidLooks := .later }
def ContractMissingCardSaid : Prop := Claim7.holds Tryd.pinned (.plain (OpenSpec.ofChange contractMissingSpec)) contractMissingCard

/-- THE TIED CARD OF 'airchecklaw12.ContractCategories'. -/
def contractCategoriesCard : Claim7 := { stood := { row := contractCategoriesRow, standIns := [], harness := (true, "2b1ac9f1e9f844c905ce01b9af2d7fd5db6bfac240c41601e7c4e8e6c5b43193"), looks := false }, kinds := [], alts := [], laidByText := true, laidKinds := [.funcs], laidTests := true, laidLooks := .later }
def ContractCategoriesCardSaid : Prop := Claim7.holds Tryd.pinned (.plain (OpenSpec.ofChange contractCategoriesSpec)) contractCategoriesCard

/-- THE SECOND FORM's CARD OF 'airchecklaw12.ContractMatchesReference'. -/
def contractMatchesReferenceUptoCard : Claim7 := { stood := { row := contractMatchesReferenceUptoRow, standIns := [], harness := (true, "2b1ac9f1e9f844c905ce01b9af2d7fd5db6bfac240c41601e7c4e8e6c5b43193"), looks := false }, kinds := [], alts := [], laidByText := true, laidKinds := [.funcs], laidTests := true, laidLooks := .later }
def ContractMatchesReferenceUptoCardSaid : Prop := Claim7.holds Tryd.pinned (.plain (OpenSpec.upto contractMatchesReferenceSpec)) contractMatchesReferenceUptoCard

/-- THE SECOND FORM's CARD OF 'airchecklaw12.ContractBounds'. -/
def contractBoundsUptoCard : Claim7 := { stood := { row := contractBoundsUptoRow, standIns := [], harness := (true, "2b1ac9f1e9f844c905ce01b9af2d7fd5db6bfac240c41601e7c4e8e6c5b43193"), looks := false }, kinds := [], alts := [], laidByText := true, laidKinds := [.funcs], laidTests := true, laidLooks := .later }
def ContractBoundsUptoCardSaid : Prop := Claim7.holds Tryd.pinned (.plain (OpenSpec.upto contractBoundsSpec)) contractBoundsUptoCard

/-- THE SECOND FORM's CARD OF 'airchecklaw12.ContractNothing'. -/
def contractNothingUptoCard : Claim7 := { stood := { row := contractNothingUptoRow, standIns := [], harness := (true, "2b1ac9f1e9f844c905ce01b9af2d7fd5db6bfac240c41601e7c4e8e6c5b43193"), looks := false }, kinds := [], alts := [], laidByText := true, laidKinds := [.funcs], laidTests := true, laidLooks := .later }
def ContractNothingUptoCardSaid : Prop := Claim7.holds Tryd.pinned (.plain (OpenSpec.upto contractNothingSpec)) contractNothingUptoCard

/-- THE SECOND FORM's CARD OF 'airchecklaw12.ContractOrder'. -/
def contractOrderUptoCard : Claim7 := { stood := { row := contractOrderUptoRow, standIns := [], harness := (true, "2b1ac9f1e9f844c905ce01b9af2d7fd5db6bfac240c41601e7c4e8e6c5b43193"), looks := false }, kinds := [], alts := [], laidByText := true, laidKinds := [.funcs], laidTests := true, laidLooks := .later }
def ContractOrderUptoCardSaid : Prop := Claim7.holds Tryd.pinned (.plain (OpenSpec.upto contractOrderSpec)) contractOrderUptoCard

/-- THE SECOND FORM's CARD OF 'airchecklaw12.ContractNext'. -/
def contractNextUptoCard : Claim7 := { stood := { row := contractNextUptoRow, standIns := [], harness := (true, "2b1ac9f1e9f844c905ce01b9af2d7fd5db6bfac240c41601e7c4e8e6c5b43193"), looks := false }, kinds := [], alts := [], laidByText := true, laidKinds := [.funcs], laidTests := true, laidLooks := .later }
def ContractNextUptoCardSaid : Prop := Claim7.holds Tryd.pinned (.plain (OpenSpec.upto contractNextSpec)) contractNextUptoCard

/-- THE SECOND FORM's CARD OF 'airchecklaw12.ContractBefore'. -/
def contractBeforeUptoCard : Claim7 := { stood := { row := contractBeforeUptoRow, standIns := [], harness := (true, "2b1ac9f1e9f844c905ce01b9af2d7fd5db6bfac240c41601e7c4e8e6c5b43193"), looks := false }, kinds := [], alts := [], laidByText := true, laidKinds := [.funcs], laidTests := true, laidLooks := .later }
def ContractBeforeUptoCardSaid : Prop := Claim7.holds Tryd.pinned (.plain (OpenSpec.upto contractBeforeSpec)) contractBeforeUptoCard

/-- THE SECOND FORM's CARD OF 'airchecklaw12.ContractMissing'. -/
def contractMissingUptoCard : Claim7 := { stood := { row := contractMissingUptoRow, standIns := [], harness := (true, "2b1ac9f1e9f844c905ce01b9af2d7fd5db6bfac240c41601e7c4e8e6c5b43193"), looks := false }, kinds := [], alts := [], laidByText := true, laidKinds := [.funcs], laidTests := true, laidLooks := .later }
def ContractMissingUptoCardSaid : Prop := Claim7.holds Tryd.pinned (.plain (OpenSpec.upto contractMissingSpec)) contractMissingUptoCard

/-- THE SECOND FORM's CARD OF 'airchecklaw12.ContractCategories'. -/
def contractCategoriesUptoCard : Claim7 := { stood := { row := contractCategoriesUptoRow, standIns := [], harness := (true, "2b1ac9f1e9f844c905ce01b9af2d7fd5db6bfac240c41601e7c4e8e6c5b43193"), looks := false }, kinds := [], alts := [], laidByText := true, laidKinds := [.funcs], laidTests := true, laidLooks := .later }
def ContractCategoriesUptoCardSaid : Prop := Claim7.holds Tryd.pinned (.plain (OpenSpec.upto contractCategoriesSpec)) contractCategoriesUptoCard
end Rows
end Go.Proofs.YteplelijhkmbkaaDoor
