/-
  DERIVED. GIVEN WITH THE SEED: THE CARDS: each row of YtcmepdamemnbkaaDoorRows.lean that lists a variable, with what it lists TIED to the program's text (the seventh form; the later family's looks); each row that meets fmt, with fmt's text TOLD by the authors' own Lean function (tested against real Go, not proved from fmt's source: count such statements apart). THE CARD IS WHAT COUNTS. Prove the row's statement (the work); the ties are given (YtcmepdamemnbkaaDoorTie.lean); close each card by the builder's one call (the guide's Derived/Test/ToyasCard.lean, 'card_holds'). Laid BY PROGRAM, IN A SANDBOX (cutbox-door.mjs). By AI agents, Wed Nov 11 2026. No macro, syntax, notation, axiom, sorry.
-/
import Derived.Test.YtcmepdamemnbkaaDoorRows
import GoSem.ClaimSeven
namespace Go.Proofs.YtcmepdamemnbkaaDoor
namespace Rows

/-- THE TIED CARD OF 'cottonpadlaw08.TrustPieces'. -/
def trustPiecesCard : Claim7 := { stood := { row := trustPiecesRow, standIns := [], harness := (true, "310a7fff757db471e7a61437f6ea7fd3e70b5ec6c52b6bf43b1e982c48d1f7c6"), looks := true }, kinds := [], alts := [], laidByText := true, laidKinds := [.funcs], laidTests := true, laidLooks := .later }
def TrustPiecesCardSaid : Prop := Claim7.holds Tryd.pinned (.plain (OpenSpec.ofChange trustPiecesSpec)) trustPiecesCard

/-- THE TIED CARD OF 'cottonpadlaw08.TrustExamples'. -/
def trustExamplesCard : Claim7 := { stood := { row := trustExamplesRow, standIns := [], harness := (true, "310a7fff757db471e7a61437f6ea7fd3e70b5ec6c52b6bf43b1e982c48d1f7c6"), looks := true }, kinds := [], alts := [], laidByText := true, laidKinds := [.funcs], laidTests := true, laidLooks := .later }
def TrustExamplesCardSaid : Prop := Claim7.holds Tryd.pinned (.plain (OpenSpec.ofChange trustExamplesSpec)) trustExamplesCard

/-- THE TIED CARD OF 'cottonpadlaw08.TrustTakes'. -/
def trustTakesCard : Claim7 := { stood := { row := trustTakesRow, standIns := [], harness := (true, "310a7fff757db471e7a61437f6ea7fd3e70b5ec6c52b6bf43b1e982c48d1f7c6"), looks := true }, kinds := [], alts := [], laidByText := true, laidKinds := [.funcs], laidTests := true, laidLooks := .later }
def TrustTakesCardSaid : Prop := Claim7.holds Tryd.pinned (.plain (OpenSpec.ofChange trustTakesSpec)) trustTakesCard

/-- THE TIED CARD OF 'cottonpadlaw08.TrustOrder'. -/
def trustOrderCard : Claim7 := { stood := { row := trustOrderRow, standIns := [], harness := (true, "310a7fff757db471e7a61437f6ea7fd3e70b5ec6c52b6bf43b1e982c48d1f7c6"), looks := true }, kinds := [], alts := [], laidByText := true, laidKinds := [.funcs], laidTests := true, laidLooks := .later }
def TrustOrderCardSaid : Prop := Claim7.holds Tryd.pinned (.plain (OpenSpec.ofChange trustOrderSpec)) trustOrderCard

/-- THE TIED CARD OF 'cottonpadlaw08.TrustMore'. -/
def trustMoreCard : Claim7 := { stood := { row := trustMoreRow, standIns := [], harness := (true, "310a7fff757db471e7a61437f6ea7fd3e70b5ec6c52b6bf43b1e982c48d1f7c6"), looks := true }, kinds := [], alts := [], laidByText := true, laidKinds := [.funcs], laidTests := true, laidLooks := .later }
def TrustMoreCardSaid : Prop := Claim7.holds Tryd.pinned (.plain (OpenSpec.ofChange trustMoreSpec)) trustMoreCard

/-- THE TIED CARD OF 'cottonpadlaw08.TrustEnough'. -/
def trustEnoughCard : Claim7 := { stood := { row := trustEnoughRow, standIns := [], harness := (true, "310a7fff757db471e7a61437f6ea7fd3e70b5ec6c52b6bf43b1e982c48d1f7c6"), looks := true }, kinds := [], alts := [], laidByText := true, laidKinds := [.funcs], laidTests := true, laidLooks := .later }
def TrustEnoughCardSaid : Prop := Claim7.holds Tryd.pinned (.plain (OpenSpec.ofChange trustEnoughSpec)) trustEnoughCard

/-- THE TIED CARD OF 'cottonpadlaw08.TrustCauses'. -/
def trustCausesCard : Claim7 := { stood := { row := trustCausesRow, standIns := [], harness := (true, "310a7fff757db471e7a61437f6ea7fd3e70b5ec6c52b6bf43b1e982c48d1f7c6"), looks := true }, kinds := [], alts := [], laidByText := true, laidKinds := [.funcs], laidTests := true, laidLooks := .later }
def TrustCausesCardSaid : Prop := Claim7.holds Tryd.pinned (.plain (OpenSpec.ofChange trustCausesSpec)) trustCausesCard

/-- THE TIED CARD OF 'cottonpadlaw08.TrustBalance'. -/
def trustBalanceCard : Claim7 := { stood := { row := trustBalanceRow, standIns := [], harness := (true, "310a7fff757db471e7a61437f6ea7fd3e70b5ec6c52b6bf43b1e982c48d1f7c6"), looks := true }, kinds := [], alts := [], laidByText := true, laidKinds := [.funcs], laidTests := true, laidLooks := .later }
def TrustBalanceCardSaid : Prop := Claim7.holds Tryd.pinned (.plain (OpenSpec.ofChange trustBalanceSpec)) trustBalanceCard

/-- THE TIED CARD OF 'cottonpadlaw08.TrustRecall'. -/
def trustRecallCard : Claim7 := { stood := { row := trustRecallRow, standIns := [], harness := (true, "310a7fff757db471e7a61437f6ea7fd3e70b5ec6c52b6bf43b1e982c48d1f7c6"), looks := true }, kinds := [], alts := [], laidByText := true, laidKinds := [.funcs], laidTests := true, laidLooks := .later }
def TrustRecallCardSaid : Prop := Claim7.holds Tryd.pinned (.plain (OpenSpec.ofChange trustRecallSpec)) trustRecallCard

/-- THE SECOND FORM's CARD OF 'cottonpadlaw08.TrustPieces'. -/
def trustPiecesUptoCard : Claim7 := { stood := { row := trustPiecesUptoRow, standIns := [], harness := (true, "310a7fff757db471e7a61437f6ea7fd3e70b5ec6c52b6bf43b1e982c48d1f7c6"), looks := true }, kinds := [], alts := [], laidByText := true, laidKinds := [.funcs], laidTests := true, laidLooks := .later }
def TrustPiecesUptoCardSaid : Prop := Claim7.holds Tryd.pinned (.plain (OpenSpec.upto trustPiecesSpec)) trustPiecesUptoCard

/-- THE SECOND FORM's CARD OF 'cottonpadlaw08.TrustExamples'. -/
def trustExamplesUptoCard : Claim7 := { stood := { row := trustExamplesUptoRow, standIns := [], harness := (true, "310a7fff757db471e7a61437f6ea7fd3e70b5ec6c52b6bf43b1e982c48d1f7c6"), looks := true }, kinds := [], alts := [], laidByText := true, laidKinds := [.funcs], laidTests := true, laidLooks := .later }
def TrustExamplesUptoCardSaid : Prop := Claim7.holds Tryd.pinned (.plain (OpenSpec.upto trustExamplesSpec)) trustExamplesUptoCard

/-- THE SECOND FORM's CARD OF 'cottonpadlaw08.TrustTakes'. -/
def trustTakesUptoCard : Claim7 := { stood := { row := trustTakesUptoRow, standIns := [], harness := (true, "310a7fff757db471e7a61437f6ea7fd3e70b5ec6c52b6bf43b1e982c48d1f7c6"), looks := true }, kinds := [], alts := [], laidByText := true, laidKinds := [.funcs], laidTests := true, laidLooks := .later }
def TrustTakesUptoCardSaid : Prop := Claim7.holds Tryd.pinned (.plain (OpenSpec.upto trustTakesSpec)) trustTakesUptoCard

/-- THE SECOND FORM's CARD OF 'cottonpadlaw08.TrustOrder'. -/
def trustOrderUptoCard : Claim7 := { stood := { row := trustOrderUptoRow, standIns := [], harness := (true, "310a7fff757db471e7a61437f6ea7fd3e70b5ec6c52b6bf43b1e982c48d1f7c6"), looks := true }, kinds := [], alts := [], laidByText := true, laidKinds := [.funcs], laidTests := true, laidLooks := .later }
def TrustOrderUptoCardSaid : Prop := Claim7.holds Tryd.pinned (.plain (OpenSpec.upto trustOrderSpec)) trustOrderUptoCard

/-- THE SECOND FORM's CARD OF 'cottonpadlaw08.TrustMore'. -/
def trustMoreUptoCard : Claim7 := { stood := { row := trustMoreUptoRow, standIns := [], harness := (true, "310a7fff757db471e7a61437f6ea7fd3e70b5ec6c52b6bf43b1e982c48d1f7c6"), looks := true }, kinds := [], alts := [], laidByText := true, laidKinds := [.funcs], laidTests := true, laidLooks := .later }
def TrustMoreUptoCardSaid : Prop := Claim7.holds Tryd.pinned (.plain (OpenSpec.upto trustMoreSpec)) trustMoreUptoCard

/-- THE SECOND FORM's CARD OF 'cottonpadlaw08.TrustEnough'. -/
def trustEnoughUptoCard : Claim7 := { stood := { row := trustEnoughUptoRow, standIns := [], harness := (true, "310a7fff757db471e7a61437f6ea7fd3e70b5ec6c52b6bf43b1e982c48d1f7c6"), looks := true }, kinds := [], alts := [], laidByText := true, laidKinds := [.funcs], laidTests := true, laidLooks := .later }
def TrustEnoughUptoCardSaid : Prop := Claim7.holds Tryd.pinned (.plain (OpenSpec.upto trustEnoughSpec)) trustEnoughUptoCard

/-- THE SECOND FORM's CARD OF 'cottonpadlaw08.TrustCauses'. -/
def trustCausesUptoCard : Claim7 := { stood := { row := trustCausesUptoRow, standIns := [], harness := (true, "310a7fff757db471e7a61437f6ea7fd3e70b5ec6c52b6bf43b1e982c48d1f7c6"), looks := true }, kinds := [], alts := [], laidByText := true, laidKinds := [.funcs], laidTests := true, laidLooks := .later }
def TrustCausesUptoCardSaid : Prop := Claim7.holds Tryd.pinned (.plain (OpenSpec.upto trustCausesSpec)) trustCausesUptoCard

/-- THE SECOND FORM's CARD OF 'cottonpadlaw08.TrustBalance'. -/
def trustBalanceUptoCard : Claim7 := { stood := { row := trustBalanceUptoRow, standIns := [], harness := (true, "310a7fff757db471e7a61437f6ea7fd3e70b5ec6c52b6bf43b1e982c48d1f7c6"), looks := true }, kinds := [], alts := [], laidByText := true, laidKinds := [.funcs], laidTests := true, laidLooks := .later }
def TrustBalanceUptoCardSaid : Prop := Claim7.holds Tryd.pinned (.plain (OpenSpec.upto trustBalanceSpec)) trustBalanceUptoCard

/-- THE SECOND FORM's CARD OF 'cottonpadlaw08.TrustRecall'. -/
def trustRecallUptoCard : Claim7 := { stood := { row := trustRecallUptoRow, standIns := [], harness := (true, "310a7fff757db471e7a61437f6ea7fd3e70b5ec6c52b6bf43b1e982c48d1f7c6"), looks := true }, kinds := [], alts := [], laidByText := true, laidKinds := [.funcs], laidTests := true, laidLooks := .later }
def TrustRecallUptoCardSaid : Prop := Claim7.holds Tryd.pinned (.plain (OpenSpec.upto trustRecallSpec)) trustRecallUptoCard
end Rows
end Go.Proofs.YtcmepdamemnbkaaDoor
