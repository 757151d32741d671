/-
  DERIVED. GIVEN WITH THE SEED: THE CARDS: each row of YtaijhbliagjeaaaDoorRows.lean that lists a variable, with what it lists TIED to the program's text (the seventh form; the later family's looks); each row that meets fmt, with fmt's text TOLD by the authors' own Lean function (tested against real Go, not proved from fmt's source: count such statements apart). THE CARD IS WHAT COUNTS. Prove the row's statement (the work); the ties are given (YtaijhbliagjeaaaDoorTie.lean); close each card by the builder's one call (the guide's Derived/Test/ToyasCard.lean, 'card_holds'). Laid BY PROGRAM, IN A SANDBOX (cutbox-door.mjs). By AI agents, Wed Nov 11 2026. No macro, syntax, notation, axiom, sorry.
-/
import Derived.Test.YtaijhbliagjeaaaDoorRows
import GoSem.ClaimSeven
namespace Go.Proofs.YtaijhbliagjeaaaDoor
namespace Rows

/-- THE TIED CARD OF 'cottonpadlaw04.BurnWider'. -/
def burnWiderCard : Claim7 := { stood := { row := burnWiderRow, standIns := [], harness := (true, "5b3bc9877a03f6fb40c2432f7dba791a2daf7e625d091a94377e80f1bc3bfe69"), looks := false }, kinds := [], alts := [], laidByText := true, laidKinds := [.funcs], laidTests := true, laidLooks := .later }
def BurnWiderCardSaid : Prop := Claim7.holds Tryd.pinned (.plain (OpenSpec.ofChange burnWiderSpec)) burnWiderCard

/-- THE SECOND FORM's CARD OF 'cottonpadlaw04.BurnWider'. -/
def burnWiderUptoCard : Claim7 := { stood := { row := burnWiderUptoRow, standIns := [], harness := (true, "5b3bc9877a03f6fb40c2432f7dba791a2daf7e625d091a94377e80f1bc3bfe69"), looks := false }, kinds := [], alts := [], laidByText := true, laidKinds := [.funcs], laidTests := true, laidLooks := .later }
def BurnWiderUptoCardSaid : Prop := Claim7.holds Tryd.pinned (.plain (OpenSpec.upto burnWiderSpec)) burnWiderUptoCard
end Rows
end Go.Proofs.YtaijhbliagjeaaaDoor
