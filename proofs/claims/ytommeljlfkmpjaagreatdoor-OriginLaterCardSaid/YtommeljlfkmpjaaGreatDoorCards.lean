/-
  DERIVED. GIVEN WITH THE SEED: THE CARDS: each row of YtommeljlfkmpjaaGreatDoorRows.lean that lists a variable, with what it lists TIED to the program's text (the seventh form; the later family's looks); each row that meets fmt, with fmt's text TOLD by the authors' own Lean function (tested against real Go, not proved from fmt's source: count such statements apart). THE CARD IS WHAT COUNTS. Prove the row's statement (the work); the ties are given (YtommeljlfkmpjaaGreatDoorTie.lean); close each card by the builder's one call (the guide's Derived/Test/ToyasCard.lean, 'card_holds'). Laid BY PROGRAM, IN A SANDBOX (cutbox-door.mjs). By AI agents, Wed Nov 11 2026. No macro, syntax, notation, axiom, sorry.
-/
import Derived.Test.YtommeljlfkmpjaaGreatDoorRows
import GoSem.ClaimSeven
namespace Go.Proofs.YtommeljlfkmpjaaGreatDoor
namespace Rows

/-- THE TIED CARD OF 'cottonpadlaw09.OriginExcludes'. -/
def originExcludesCard : Claim7 := { stood := { row := originExcludesRow, standIns := [], harness := (true, "bdb5cef8acf8586967acfc75fd599db84a25a63c08029a5899ad28e54eb580a6"), looks := false }, kinds := [], alts := [], laidByText := true, laidKinds := [.data], laidTests := true, laidLooks := .later }
def OriginExcludesCardSaid : Prop := Claim7.holds Tryz.pinned (.plain (OpenSpec.ofChange originExcludesSpec)) originExcludesCard

/-- THE TIED CARD OF 'cottonpadlaw09.OriginTold'. -/
def originToldCard : Claim7 := { stood := { row := originToldRow, standIns := [], harness := (true, "bdb5cef8acf8586967acfc75fd599db84a25a63c08029a5899ad28e54eb580a6"), looks := false }, kinds := [], alts := [], laidByText := true, laidKinds := [.data], laidTests := true, laidLooks := .later }
def OriginToldCardSaid : Prop := Claim7.holds Tryz.pinned (.plain (OpenSpec.ofChange originToldSpec)) originToldCard

/-- THE TIED CARD OF 'cottonpadlaw09.OriginSo'. -/
def originSoCard : Claim7 := { stood := { row := originSoRow, standIns := [], harness := (true, "bdb5cef8acf8586967acfc75fd599db84a25a63c08029a5899ad28e54eb580a6"), looks := false }, kinds := [], alts := [], laidByText := true, laidKinds := [.data], laidTests := true, laidLooks := .later }
def OriginSoCardSaid : Prop := Claim7.holds Tryz.pinned (.plain (OpenSpec.ofChange originSoSpec)) originSoCard

/-- THE TIED CARD OF 'cottonpadlaw09.OriginNamed'. -/
def originNamedCard : Claim7 := { stood := { row := originNamedRow, standIns := [], harness := (true, "bdb5cef8acf8586967acfc75fd599db84a25a63c08029a5899ad28e54eb580a6"), looks := false }, kinds := [], alts := [], laidByText := true, laidKinds := [.data], laidTests := true, laidLooks := .later }
def OriginNamedCardSaid : Prop := Claim7.holds Tryz.pinned (.plain (OpenSpec.ofChange originNamedSpec)) originNamedCard

/-- THE TIED CARD OF 'cottonpadlaw09.OriginWitness'. -/
def originWitnessCard : Claim7 := { stood := { row := originWitnessRow, standIns := [], harness := (true, "bdb5cef8acf8586967acfc75fd599db84a25a63c08029a5899ad28e54eb580a6"), looks := false }, kinds := [], alts := [], laidByText := true, laidKinds := [.data], laidTests := true, laidLooks := .later }
def OriginWitnessCardSaid : Prop := Claim7.holds Tryz.pinned (.plain (OpenSpec.ofChange originWitnessSpec)) originWitnessCard

/-- THE TIED CARD OF 'cottonpadlaw09.OriginAgainst'. -/
def originAgainstCard : Claim7 := { stood := { row := originAgainstRow, standIns := [], harness := (true, "bdb5cef8acf8586967acfc75fd599db84a25a63c08029a5899ad28e54eb580a6"), looks := false }, kinds := [], alts := [], laidByText := true, laidKinds := [.data], laidTests := true, laidLooks := .later }
def OriginAgainstCardSaid : Prop := Claim7.holds Tryz.pinned (.plain (OpenSpec.ofChange originAgainstSpec)) originAgainstCard

/-- THE TIED CARD OF 'cottonpadlaw09.OriginMore'. -/
def originMoreCard : Claim7 := { stood := { row := originMoreRow, standIns := [], harness := (true, "bdb5cef8acf8586967acfc75fd599db84a25a63c08029a5899ad28e54eb580a6"), looks := false }, kinds := [], alts := [], laidByText := true, laidKinds := [.data], laidTests := true, laidLooks := .later }
def OriginMoreCardSaid : Prop := Claim7.holds Tryz.pinned (.plain (OpenSpec.ofChange originMoreSpec)) originMoreCard

/-- THE TIED CARD OF 'cottonpadlaw09.OriginLater'. -/
def originLaterCard : Claim7 := { stood := { row := originLaterRow, standIns := [], harness := (true, "bdb5cef8acf8586967acfc75fd599db84a25a63c08029a5899ad28e54eb580a6"), looks := false }, kinds := [], alts := [], laidByText := true, laidKinds := [.data], laidTests := true, laidLooks := .later }
def OriginLaterCardSaid : Prop := Claim7.holds Tryz.pinned (.plain (OpenSpec.ofChange originLaterSpec)) originLaterCard

/-- THE TIED CARD OF 'cottonpadlaw09.OriginFree'. -/
def originFreeCard : Claim7 := { stood := { row := originFreeRow, standIns := [], harness := (true, "bdb5cef8acf8586967acfc75fd599db84a25a63c08029a5899ad28e54eb580a6"), looks := false }, kinds := [], alts := [], laidByText := true, laidKinds := [.data], laidTests := true, laidLooks := .later }
def OriginFreeCardSaid : Prop := Claim7.holds Tryz.pinned (.plain (OpenSpec.ofChange originFreeSpec)) originFreeCard

/-- THE SECOND FORM's CARD OF 'cottonpadlaw09.OriginExcludes'. -/
def originExcludesUptoCard : Claim7 := { stood := { row := originExcludesUptoRow, standIns := [], harness := (true, "bdb5cef8acf8586967acfc75fd599db84a25a63c08029a5899ad28e54eb580a6"), looks := false }, kinds := [], alts := [], laidByText := true, laidKinds := [.data], laidTests := true, laidLooks := .later }
def OriginExcludesUptoCardSaid : Prop := Claim7.holds Tryz.pinned (.plain (OpenSpec.upto originExcludesSpec)) originExcludesUptoCard

/-- THE SECOND FORM's CARD OF 'cottonpadlaw09.OriginTold'. -/
def originToldUptoCard : Claim7 := { stood := { row := originToldUptoRow, standIns := [], harness := (true, "bdb5cef8acf8586967acfc75fd599db84a25a63c08029a5899ad28e54eb580a6"), looks := false }, kinds := [], alts := [], laidByText := true, laidKinds := [.data], laidTests := true, laidLooks := .later }
def OriginToldUptoCardSaid : Prop := Claim7.holds Tryz.pinned (.plain (OpenSpec.upto originToldSpec)) originToldUptoCard

/-- THE SECOND FORM's CARD OF 'cottonpadlaw09.OriginSo'. -/
def originSoUptoCard : Claim7 := { stood := { row := originSoUptoRow, standIns := [], harness := (true, "bdb5cef8acf8586967acfc75fd599db84a25a63c08029a5899ad28e54eb580a6"), looks := false }, kinds := [], alts := [], laidByText := true, laidKinds := [.data], laidTests := true, laidLooks := .later }
def OriginSoUptoCardSaid : Prop := Claim7.holds Tryz.pinned (.plain (OpenSpec.upto originSoSpec)) originSoUptoCard

/-- THE SECOND FORM's CARD OF 'cottonpadlaw09.OriginNamed'. -/
def originNamedUptoCard : Claim7 := { stood := { row := originNamedUptoRow, standIns := [], harness := (true, "bdb5cef8acf8586967acfc75fd599db84a25a63c08029a5899ad28e54eb580a6"), looks := false }, kinds := [], alts := [], laidByText := true, laidKinds := [.data], laidTests := true, laidLooks := .later }
def OriginNamedUptoCardSaid : Prop := Claim7.holds Tryz.pinned (.plain (OpenSpec.upto originNamedSpec)) originNamedUptoCard

/-- THE SECOND FORM's CARD OF 'cottonpadlaw09.OriginWitness'. -/
def originWitnessUptoCard : Claim7 := { stood := { row := originWitnessUptoRow, standIns := [], harness := (true, "bdb5cef8acf8586967acfc75fd599db84a25a63c08029a5899ad28e54eb580a6"), looks := false }, kinds := [], alts := [], laidByText := true, laidKinds := [.data], laidTests := true, laidLooks := .later }
def OriginWitnessUptoCardSaid : Prop := Claim7.holds Tryz.pinned (.plain (OpenSpec.upto originWitnessSpec)) originWitnessUptoCard

/-- THE SECOND FORM's CARD OF 'cottonpadlaw09.OriginAgainst'. -/
def originAgainstUptoCard : Claim7 := { stood := { row := originAgainstUptoRow, standIns := [], harness := (true, "bdb5cef8acf8586967acfc75fd599db84a25a63c08029a5899ad28e54eb580a6"), looks := false }, kinds := [], alts := [], laidByText := true, laidKinds := [.data], laidTests := true, laidLooks := .later }
def OriginAgainstUptoCardSaid : Prop := Claim7.holds Tryz.pinned (.plain (OpenSpec.upto originAgainstSpec)) originAgainstUptoCard

/-- THE SECOND FORM's CARD OF 'cottonpadlaw09.OriginMore'. -/
def originMoreUptoCard : Claim7 := { stood := { row := originMoreUptoRow, standIns := [], harness := (true, "bdb5cef8acf8586967acfc75fd599db84a25a63c08029a5899ad28e54eb580a6"), looks := false }, kinds := [], alts := [], laidByText := true, laidKinds := [.data], laidTests := true, laidLooks := .later }
def OriginMoreUptoCardSaid : Prop := Claim7.holds Tryz.pinned (.plain (OpenSpec.upto originMoreSpec)) originMoreUptoCard

/-- THE SECOND FORM's CARD OF 'cottonpadlaw09.OriginLater'. -/
def originLaterUptoCard : Claim7 := { stood := { row := originLaterUptoRow, standIns := [], harness := (true, "bdb5cef8acf8586967acfc75fd599db84a25a63c08029a5899ad28e54eb580a6"), looks := false }, kinds := [], alts := [], laidByText := true, laidKinds := [.data], laidTests := true, laidLooks := .later }
def OriginLaterUptoCardSaid : Prop := Claim7.holds Tryz.pinned (.plain (OpenSpec.upto originLaterSpec)) originLaterUptoCard

/-- THE SECOND FORM's CARD OF 'cottonpadlaw09.OriginFree'. -/
def originFreeUptoCard : Claim7 := { stood := { row := originFreeUptoRow, standIns := [], harness := (true, "bdb5cef8acf8586967acfc75fd599db84a25a63c08029a5899ad28e54eb580a6"), looks := false }, kinds := [], alts := [], laidByText := true, laidKinds := [.data], laidTests := true, laidLooks := .later }
def OriginFreeUptoCardSaid : Prop := Claim7.holds Tryz.pinned (.plain (OpenSpec.upto originFreeSpec)) originFreeUptoCard
end Rows
end Go.Proofs.YtommeljlfkmpjaaGreatDoor
