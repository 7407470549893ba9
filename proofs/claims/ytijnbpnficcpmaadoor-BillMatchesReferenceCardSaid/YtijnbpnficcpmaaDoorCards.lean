/-
  DERIVED. GIVEN WITH THE SEED: THE CARDS: each row of YtijnbpnficcpmaaDoorRows.lean that lists a variable, with what it lists TIED to the program's text (the seventh form; the later family's looks); each row that meets fmt, with fmt's text TOLD by the authors' own Lean function (tested against real Go, not proved from fmt's source: count such statements apart). THE CARD IS WHAT COUNTS. Prove the row's statement (the work); the ties are given (YtijnbpnficcpmaaDoorTie.lean); close each card by the builder's one call (the guide's Derived/Test/ToyasCard.lean, 'card_holds'). Laid BY PROGRAM, IN A SANDBOX (cutbox-door.mjs). By AI agents, Wed Nov 11 2026. No macro, syntax, notation, axiom, sorry.
-/
import Derived.Test.YtijnbpnficcpmaaDoorRows
import GoSem.ClaimSeven
namespace Go.Proofs.YtijnbpnficcpmaaDoor
namespace Rows

/-- THE TIED CARD OF 'airchecklaw39.BillMatchesReference'. -/
def billMatchesReferenceCard : Claim7 := { stood := { row := billMatchesReferenceRow, standIns := [], harness := (true, "82253a3f78194241c659ccca32a0eafd4057f6e6a13a58b539e17252431ab20c"), looks := false }, kinds := [], alts := [], laidByText := true, laidKinds := [.funcs], laidTests := true, laidLooks := .later }
def BillMatchesReferenceCardSaid : Prop := Claim7.holds Tryd.pinned (.plain (OpenSpec.ofChange billMatchesReferenceSpec)) billMatchesReferenceCard

/-- THE TIED CARD OF 'airchecklaw39.BillDelivers'. -/
def billDeliversCard : Claim7 := { stood := { row := billDeliversRow, standIns := [], harness := (true, "82253a3f78194241c659ccca32a0eafd4057f6e6a13a58b539e17252431ab20c"), looks := false }, kinds := [], alts := [], laidByText := true, laidKinds := [.funcs], laidTests := true, laidLooks := .later }
def BillDeliversCardSaid : Prop := Claim7.holds Tryd.pinned (.plain (OpenSpec.ofChange billDeliversSpec)) billDeliversCard

/-- THE TIED CARD OF 'airchecklaw39.BillShares'. -/
def billSharesCard : Claim7 := { stood := { row := billSharesRow, standIns := [], harness := (true, "82253a3f78194241c659ccca32a0eafd4057f6e6a13a58b539e17252431ab20c"), looks := false }, kinds := [], alts := [], laidByText := true, laidKinds := [.funcs], laidTests := true, laidLooks := .later }
def BillSharesCardSaid : Prop := Claim7.holds Tryd.pinned (.plain (OpenSpec.ofChange billSharesSpec)) billSharesCard

/-- THE TIED CARD OF 'airchecklaw39.BillRoyalties'. -/
def billRoyaltiesCard : Claim7 := { stood := { row := billRoyaltiesRow, standIns := [], harness := (true, "82253a3f78194241c659ccca32a0eafd4057f6e6a13a58b539e17252431ab20c"), looks := false }, kinds := [], alts := [], laidByText := true, laidKinds := [.funcs], laidTests := true, laidLooks := .later }
def BillRoyaltiesCardSaid : Prop := Claim7.holds Tryd.pinned (.plain (OpenSpec.ofChange billRoyaltiesSpec)) billRoyaltiesCard

/-- THE TIED CARD OF 'airchecklaw39.BillSettles'. -/
def billSettlesCard : Claim7 := { stood := { row := billSettlesRow, standIns := [], harness := (true, "82253a3f78194241c659ccca32a0eafd4057f6e6a13a58b539e17252431ab20c"), looks := false }, kinds := [], alts := [], laidByText := true, laidKinds := [.funcs], laidTests := true, laidLooks := .later }
def BillSettlesCardSaid : Prop := Claim7.holds Tryd.pinned (.plain (OpenSpec.ofChange billSettlesSpec)) billSettlesCard

/-- THE TIED CARD OF 'airchecklaw39.BillFollows'. -/
def billFollowsCard : Claim7 := { stood := { row := billFollowsRow, standIns := [], harness := (true, "82253a3f78194241c659ccca32a0eafd4057f6e6a13a58b539e17252431ab20c"), looks := false }, kinds := [], alts := [], laidByText := true, laidKinds := [.funcs], laidTests := true, laidLooks := .later }
def BillFollowsCardSaid : Prop := Claim7.holds Tryd.pinned (.plain (OpenSpec.ofChange billFollowsSpec)) billFollowsCard

/-- THE TIED CARD OF 'airchecklaw39.BillKeeps'. -/
def billKeepsCard : Claim7 := { stood := { row := billKeepsRow, standIns := [], harness := (true, "82253a3f78194241c659ccca32a0eafd4057f6e6a13a58b539e17252431ab20c"), looks := false }, kinds := [], alts := [], laidByText := true, laidKinds := [.funcs], laidTests := true, laidLooks := .later }
def BillKeepsCardSaid : Prop := Claim7.holds Tryd.pinned (.plain (OpenSpec.ofChange billKeepsSpec)) billKeepsCard

/-- THE SECOND FORM's CARD OF 'airchecklaw39.BillMatchesReference'. -/
def billMatchesReferenceUptoCard : Claim7 := { stood := { row := billMatchesReferenceUptoRow, standIns := [], harness := (true, "82253a3f78194241c659ccca32a0eafd4057f6e6a13a58b539e17252431ab20c"), looks := false }, kinds := [], alts := [], laidByText := true, laidKinds := [.funcs], laidTests := true, laidLooks := .later }
def BillMatchesReferenceUptoCardSaid : Prop := Claim7.holds Tryd.pinned (.plain (OpenSpec.upto billMatchesReferenceSpec)) billMatchesReferenceUptoCard

/-- THE SECOND FORM's CARD OF 'airchecklaw39.BillDelivers'. -/
def billDeliversUptoCard : Claim7 := { stood := { row := billDeliversUptoRow, standIns := [], harness := (true, "82253a3f78194241c659ccca32a0eafd4057f6e6a13a58b539e17252431ab20c"), looks := false }, kinds := [], alts := [], laidByText := true, laidKinds := [.funcs], laidTests := true, laidLooks := .later }
def BillDeliversUptoCardSaid : Prop := Claim7.holds Tryd.pinned (.plain (OpenSpec.upto billDeliversSpec)) billDeliversUptoCard

/-- THE SECOND FORM's CARD OF 'airchecklaw39.BillShares'. -/
def billSharesUptoCard : Claim7 := { stood := { row := billSharesUptoRow, standIns := [], harness := (true, "82253a3f78194241c659ccca32a0eafd4057f6e6a13a58b539e17252431ab20c"), looks := false }, kinds := [], alts := [], laidByText := true, laidKinds := [.funcs], laidTests := true, laidLooks := .later }
def BillSharesUptoCardSaid : Prop := Claim7.holds Tryd.pinned (.plain (OpenSpec.upto billSharesSpec)) billSharesUptoCard

/-- THE SECOND FORM's CARD OF 'airchecklaw39.BillRoyalties'. -/
def billRoyaltiesUptoCard : Claim7 := { stood := { row := billRoyaltiesUptoRow, standIns := [], harness := (true, "82253a3f78194241c659ccca32a0eafd4057f6e6a13a58b539e17252431ab20c"), looks := false }, kinds := [], alts := [], laidByText := true, laidKinds := [.funcs], laidTests := true, laidLooks := .later }
def BillRoyaltiesUptoCardSaid : Prop := Claim7.holds Tryd.pinned (.plain (OpenSpec.upto billRoyaltiesSpec)) billRoyaltiesUptoCard

/-- THE SECOND FORM's CARD OF 'airchecklaw39.BillSettles'. -/
def billSettlesUptoCard : Claim7 := { stood := { row := billSettlesUptoRow, standIns := [], harness := (true, "82253a3f78194241c659ccca32a0eafd4057f6e6a13a58b539e17252431ab20c"), looks := false }, kinds := [], alts := [], laidByText := true, laidKinds := [.funcs], laidTests := true, laidLooks := .later }
def BillSettlesUptoCardSaid : Prop := Claim7.holds Tryd.pinned (.plain (OpenSpec.upto billSettlesSpec)) billSettlesUptoCard

/-- THE SECOND FORM's CARD OF 'airchecklaw39.BillFollows'. -/
def billFollowsUptoCard : Claim7 := { stood := { row := billFollowsUptoRow, standIns := [], harness := (true, "82253a3f78194241c659ccca32a0eafd4057f6e6a13a58b539e17252431ab20c"), looks := false }, kinds := [], alts := [], laidByText := true, laidKinds := [.funcs], laidTests := true, laidLooks := .later }
def BillFollowsUptoCardSaid : Prop := Claim7.holds Tryd.pinned (.plain (OpenSpec.upto billFollowsSpec)) billFollowsUptoCard

/-- THE SECOND FORM's CARD OF 'airchecklaw39.BillKeeps'. -/
def billKeepsUptoCard : Claim7 := { stood := { row := billKeepsUptoRow, standIns := [], harness := (true, "82253a3f78194241c659ccca32a0eafd4057f6e6a13a58b539e17252431ab20c"), looks := false }, kinds := [], alts := [], laidByText := true, laidKinds := [.funcs], laidTests := true, laidLooks := .later }
def BillKeepsUptoCardSaid : Prop := Claim7.holds Tryd.pinned (.plain (OpenSpec.upto billKeepsSpec)) billKeepsUptoCard
end Rows
end Go.Proofs.YtijnbpnficcpmaaDoor
