/-
  DERIVED. GIVEN WITH THE SEED: THE CARDS: each row of YtgdmaadikcnagaaDoorRows.lean that lists a variable, with what it lists TIED to the program's text (the seventh form; the later family's looks); each row that meets fmt, with fmt's text TOLD by the authors' own Lean function (tested against real Go, not proved from fmt's source: count such statements apart). THE CARD IS WHAT COUNTS. Prove the row's statement (the work); the ties are given (YtgdmaadikcnagaaDoorTie.lean); close each card by the builder's one call (the guide's Derived/Test/ToyasCard.lean, 'card_holds'). Laid BY PROGRAM, IN A SANDBOX (cutbox-door.mjs). By AI agents, Wed Nov 11 2026. No macro, syntax, notation, axiom, sorry.
-/
import Derived.Test.YtgdmaadikcnagaaDoorRows
import GoSem.ClaimSeven
namespace Go.Proofs.YtgdmaadikcnagaaDoor
namespace Rows

/-- THE TIED CARD OF 'airchecklaw14.DebtLost'. -/
def debtLostCard : Claim7 := { stood := { row := debtLostRow, standIns := [], harness := (true, "3cb17d303db6ff427c1a66e0bbe6edb481f835d9a90153d5abba44aac8a1bf71"), looks := false }, kinds := [], alts := [], laidByText := true, laidKinds := [.funcs, .funcs], laidTests := true, laidLooks := .later }
def DebtLostCardSaid : Prop := Claim7.holds Tryd.pinned (.plain (OpenSpec.ofChange debtLostSpec)) debtLostCard

/-- THE TIED CARD OF 'airchecklaw14.DebtFirst'. -/
def debtFirstCard : Claim7 := { stood := { row := debtFirstRow, standIns := [], harness := (true, "3cb17d303db6ff427c1a66e0bbe6edb481f835d9a90153d5abba44aac8a1bf71"), looks := false }, kinds := [], alts := [], laidByText := true, laidKinds := [.funcs, .funcs], laidTests := true, laidLooks := .later }
def DebtFirstCardSaid : Prop := Claim7.holds Tryd.pinned (.plain (OpenSpec.ofChange debtFirstSpec)) debtFirstCard

/-- THE TIED CARD OF 'airchecklaw14.DebtDeadlines'. -/
def debtDeadlinesCard : Claim7 := { stood := { row := debtDeadlinesRow, standIns := [], harness := (true, "3cb17d303db6ff427c1a66e0bbe6edb481f835d9a90153d5abba44aac8a1bf71"), looks := false }, kinds := [], alts := [], laidByText := true, laidKinds := [.funcs, .funcs], laidTests := true, laidLooks := .later }
def DebtDeadlinesCardSaid : Prop := Claim7.holds Tryd.pinned (.plain (OpenSpec.ofChange debtDeadlinesSpec)) debtDeadlinesCard

/-- THE TIED CARD OF 'airchecklaw14.DebtCertificates'. -/
def debtCertificatesCard : Claim7 := { stood := { row := debtCertificatesRow, standIns := [], harness := (true, "3cb17d303db6ff427c1a66e0bbe6edb481f835d9a90153d5abba44aac8a1bf71"), looks := false }, kinds := [], alts := [], laidByText := true, laidKinds := [.funcs, .funcs], laidTests := true, laidLooks := .later }
def DebtCertificatesCardSaid : Prop := Claim7.holds Tryd.pinned (.plain (OpenSpec.ofChange debtCertificatesSpec)) debtCertificatesCard

/-- THE TIED CARD OF 'airchecklaw14.DebtMost'. -/
def debtMostCard : Claim7 := { stood := { row := debtMostRow, standIns := [], harness := (true, "3cb17d303db6ff427c1a66e0bbe6edb481f835d9a90153d5abba44aac8a1bf71"), looks := false }, kinds := [], alts := [], laidByText := true, laidKinds := [.funcs, .funcs], laidTests := true, laidLooks := .later }
def DebtMostCardSaid : Prop := Claim7.holds Tryd.pinned (.plain (OpenSpec.ofChange debtMostSpec)) debtMostCard

/-- THE TIED CARD OF 'airchecklaw14.DebtRoom'. -/
def debtRoomCard : Claim7 := { stood := { row := debtRoomRow, standIns := [], harness := (true, "3cb17d303db6ff427c1a66e0bbe6edb481f835d9a90153d5abba44aac8a1bf71"), looks := false }, kinds := [], alts := [], laidByText := true, laidKinds := [.funcs, .funcs], laidTests := true, laidLooks := .later }
def DebtRoomCardSaid : Prop := Claim7.holds Tryd.pinned (.plain (OpenSpec.ofChange debtRoomSpec)) debtRoomCard

/-- THE TIED CARD OF 'airchecklaw14.DebtPromised'. -/
def debtPromisedCard : Claim7 := { stood := { row := debtPromisedRow, standIns := [], harness := (true, "3cb17d303db6ff427c1a66e0bbe6edb481f835d9a90153d5abba44aac8a1bf71"), looks := false }, kinds := [], alts := [], laidByText := true, laidKinds := [.funcs, .funcs], laidTests := true, laidLooks := .later }
def DebtPromisedCardSaid : Prop := Claim7.holds Tryd.pinned (.plain (OpenSpec.ofChange debtPromisedSpec)) debtPromisedCard

/-- THE SECOND FORM's CARD OF 'airchecklaw14.DebtLost'. -/
def debtLostUptoCard : Claim7 := { stood := { row := debtLostUptoRow, standIns := [], harness := (true, "3cb17d303db6ff427c1a66e0bbe6edb481f835d9a90153d5abba44aac8a1bf71"), looks := false }, kinds := [], alts := [], laidByText := true, laidKinds := [.funcs, .funcs], laidTests := true, laidLooks := .later }
def DebtLostUptoCardSaid : Prop := Claim7.holds Tryd.pinned (.plain (OpenSpec.upto debtLostSpec)) debtLostUptoCard

/-- THE SECOND FORM's CARD OF 'airchecklaw14.DebtFirst'. -/
def debtFirstUptoCard : Claim7 := { stood := { row := debtFirstUptoRow, standIns := [], harness := (true, "3cb17d303db6ff427c1a66e0bbe6edb481f835d9a90153d5abba44aac8a1bf71"), looks := false }, kinds := [], alts := [], laidByText := true, laidKinds := [.funcs, .funcs], laidTests := true, laidLooks := .later }
def DebtFirstUptoCardSaid : Prop := Claim7.holds Tryd.pinned (.plain (OpenSpec.upto debtFirstSpec)) debtFirstUptoCard

/-- THE SECOND FORM's CARD OF 'airchecklaw14.DebtDeadlines'. -/
def debtDeadlinesUptoCard : Claim7 := { stood := { row := debtDeadlinesUptoRow, standIns := [], harness := (true, "3cb17d303db6ff427c1a66e0bbe6edb481f835d9a90153d5abba44aac8a1bf71"), looks := false }, kinds := [], alts := [], laidByText := true, laidKinds := [.funcs, .funcs], laidTests := true, laidLooks := .later }
def DebtDeadlinesUptoCardSaid : Prop := Claim7.holds Tryd.pinned (.plain (OpenSpec.upto debtDeadlinesSpec)) debtDeadlinesUptoCard

/-- THE SECOND FORM's CARD OF 'airchecklaw14.DebtCertificates'. -/
def debtCertificatesUptoCard : Claim7 := { stood := { row := debtCertificatesUptoRow, standIns := [], harness := (true, "3cb17d303db6ff427c1a66e0bbe6edb481f835d9a90153d5abba44aac8a1bf71"), looks := false }, kinds := [], alts := [], laidByText := true, laidKinds := [.funcs, .funcs], laidTests := true, laidLooks := .later }
def DebtCertificatesUptoCardSaid : Prop := Claim7.holds Tryd.pinned (.plain (OpenSpec.upto debtCertificatesSpec)) debtCertificatesUptoCard

/-- THE SECOND FORM's CARD OF 'airchecklaw14.DebtMost'. -/
def debtMostUptoCard : Claim7 := { stood := { row := debtMostUptoRow, standIns := [], harness := (true, "3cb17d303db6ff427c1a66e0bbe6edb481f835d9a90153d5abba44aac8a1bf71"), looks := false }, kinds := [], alts := [], laidByText := true, laidKinds := [.funcs, .funcs], laidTests := true, laidLooks := .later }
def DebtMostUptoCardSaid : Prop := Claim7.holds Tryd.pinned (.plain (OpenSpec.upto debtMostSpec)) debtMostUptoCard

/-- THE SECOND FORM's CARD OF 'airchecklaw14.DebtRoom'. -/
def debtRoomUptoCard : Claim7 := { stood := { row := debtRoomUptoRow, standIns := [], harness := (true, "3cb17d303db6ff427c1a66e0bbe6edb481f835d9a90153d5abba44aac8a1bf71"), looks := false }, kinds := [], alts := [], laidByText := true, laidKinds := [.funcs, .funcs], laidTests := true, laidLooks := .later }
def DebtRoomUptoCardSaid : Prop := Claim7.holds Tryd.pinned (.plain (OpenSpec.upto debtRoomSpec)) debtRoomUptoCard

/-- THE SECOND FORM's CARD OF 'airchecklaw14.DebtPromised'. -/
def debtPromisedUptoCard : Claim7 := { stood := { row := debtPromisedUptoRow, standIns := [], harness := (true, "3cb17d303db6ff427c1a66e0bbe6edb481f835d9a90153d5abba44aac8a1bf71"), looks := false }, kinds := [], alts := [], laidByText := true, laidKinds := [.funcs, .funcs], laidTests := true, laidLooks := .later }
def DebtPromisedUptoCardSaid : Prop := Claim7.holds Tryd.pinned (.plain (OpenSpec.upto debtPromisedSpec)) debtPromisedUptoCard
end Rows
end Go.Proofs.YtgdmaadikcnagaaDoor
