/-
  DERIVED. GIVEN WITH THE SEED: THE CARDS: each row of YtommeljlfkmpjaaDoorRows.lean that lists a variable, with what it lists TIED to the program's text (the seventh form; the later family's looks); each row that meets fmt, with fmt's text TOLD by the authors' own Lean function (tested against real Go, not proved from fmt's source: count such statements apart). THE CARD IS WHAT COUNTS. Prove the row's statement (the work); the ties are given (YtommeljlfkmpjaaDoorTie.lean); close each card by the builder's one call (the guide's Derived/Test/ToyasCard.lean, 'card_holds'). Laid BY PROGRAM, IN A SANDBOX (cutbox-door.mjs). By AI agents, Wed Nov 11 2026. No macro, syntax, notation, axiom, sorry.
-/
import Derived.Test.YtommeljlfkmpjaaDoorRows
import GoSem.ClaimSeven
namespace Go.Proofs.YtommeljlfkmpjaaDoor
namespace Rows

/-- THE TIED CARD OF 'cottonpadlaw09.OriginTells'. -/
def originTellsCard : Claim7 := { stood := { row := originTellsRow, standIns := [], harness := (true, "2aee13bed527a8e974e03a165fc706665f32a1b33b82f9764f6a05912eddf4ba"), looks := false }, kinds := [], alts := [], laidByText := true, laidKinds := [.data], laidTests := true, laidLooks := .later }
def OriginTellsCardSaid : Prop := Claim7.holds Tryd.pinned (.plain (OpenSpec.ofChange originTellsSpec)) originTellsCard

/-- THE TIED CARD OF 'cottonpadlaw09.OriginExamples'. -/
def originExamplesCard : Claim7 := { stood := { row := originExamplesRow, standIns := [], harness := (true, "2aee13bed527a8e974e03a165fc706665f32a1b33b82f9764f6a05912eddf4ba"), looks := false }, kinds := [], alts := [], laidByText := true, laidKinds := [.data], laidTests := true, laidLooks := .later }
def OriginExamplesCardSaid : Prop := Claim7.holds Tryd.pinned (.plain (OpenSpec.ofChange originExamplesSpec)) originExamplesCard

/-- THE SECOND FORM's CARD OF 'cottonpadlaw09.OriginTells'. -/
def originTellsUptoCard : Claim7 := { stood := { row := originTellsUptoRow, standIns := [], harness := (true, "2aee13bed527a8e974e03a165fc706665f32a1b33b82f9764f6a05912eddf4ba"), looks := false }, kinds := [], alts := [], laidByText := true, laidKinds := [.data], laidTests := true, laidLooks := .later }
def OriginTellsUptoCardSaid : Prop := Claim7.holds Tryd.pinned (.plain (OpenSpec.upto originTellsSpec)) originTellsUptoCard

/-- THE SECOND FORM's CARD OF 'cottonpadlaw09.OriginExamples'. -/
def originExamplesUptoCard : Claim7 := { stood := { row := originExamplesUptoRow, standIns := [], harness := (true, "2aee13bed527a8e974e03a165fc706665f32a1b33b82f9764f6a05912eddf4ba"), looks := false }, kinds := [], alts := [], laidByText := true, laidKinds := [.data], laidTests := true, laidLooks := .later }
def OriginExamplesUptoCardSaid : Prop := Claim7.holds Tryd.pinned (.plain (OpenSpec.upto originExamplesSpec)) originExamplesUptoCard
end Rows
end Go.Proofs.YtommeljlfkmpjaaDoor
