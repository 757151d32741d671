/-
  DERIVED. GIVEN WITH THE SEED: THE CARDS: each row of YtfgclmbndgakgaaDoorRows.lean that lists a variable, with what it lists TIED to the program's text (the seventh form; the later family's looks); each row that meets fmt, with fmt's text TOLD by the authors' own Lean function (tested against real Go, not proved from fmt's source: count such statements apart). THE CARD IS WHAT COUNTS. Prove the row's statement (the work); the ties are given (YtfgclmbndgakgaaDoorTie.lean); close each card by the builder's one call (the guide's Derived/Test/ToyasCard.lean, 'card_holds'). Laid BY PROGRAM, IN A SANDBOX (cutbox-door.mjs). By AI agents, Wed Nov 11 2026. No macro, syntax, notation, axiom, sorry.
-/
import Derived.Test.YtfgclmbndgakgaaDoorRows
import GoSem.ClaimSeven
namespace Go.Proofs.YtfgclmbndgakgaaDoor
namespace Rows

/-- THE TIED CARD OF 'cottonpadlaw04.BurnHeats'. -/
def burnHeatsCard : Claim7 := { stood := { row := burnHeatsRow, standIns := [], harness := (true, "0c1a15f9f284616c6e4b5be0c32e4618b13354c74782cde6575634d5e986c29d"), looks := false }, kinds := [], alts := [], laidByText := true, laidKinds := [.funcs], laidTests := true, laidLooks := .later }
def BurnHeatsCardSaid : Prop := Claim7.holds Tryd.pinned (.plain (OpenSpec.ofChange burnHeatsSpec)) burnHeatsCard

/-- THE TIED CARD OF 'cottonpadlaw04.BurnExamples'. -/
def burnExamplesCard : Claim7 := { stood := { row := burnExamplesRow, standIns := [], harness := (true, "0c1a15f9f284616c6e4b5be0c32e4618b13354c74782cde6575634d5e986c29d"), looks := false }, kinds := [], alts := [], laidByText := true, laidKinds := [.funcs], laidTests := true, laidLooks := .later }
def BurnExamplesCardSaid : Prop := Claim7.holds Tryd.pinned (.plain (OpenSpec.ofChange burnExamplesSpec)) burnExamplesCard

/-- THE TIED CARD OF 'cottonpadlaw04.BurnTrue'. -/
def burnTrueCard : Claim7 := { stood := { row := burnTrueRow, standIns := [], harness := (true, "0c1a15f9f284616c6e4b5be0c32e4618b13354c74782cde6575634d5e986c29d"), looks := false }, kinds := [], alts := [], laidByText := true, laidKinds := [.funcs], laidTests := true, laidLooks := .later }
def BurnTrueCardSaid : Prop := Claim7.holds Tryd.pinned (.plain (OpenSpec.ofChange burnTrueSpec)) burnTrueCard

/-- THE TIED CARD OF 'cottonpadlaw04.BurnEnds'. -/
def burnEndsCard : Claim7 := { stood := { row := burnEndsRow, standIns := [], harness := (true, "0c1a15f9f284616c6e4b5be0c32e4618b13354c74782cde6575634d5e986c29d"), looks := false }, kinds := [], alts := [], laidByText := true, laidKinds := [.funcs], laidTests := true, laidLooks := .later }
def BurnEndsCardSaid : Prop := Claim7.holds Tryd.pinned (.plain (OpenSpec.ofChange burnEndsSpec)) burnEndsCard

/-- THE TIED CARD OF 'cottonpadlaw04.BurnClosed'. -/
def burnClosedCard : Claim7 := { stood := { row := burnClosedRow, standIns := [], harness := (true, "0c1a15f9f284616c6e4b5be0c32e4618b13354c74782cde6575634d5e986c29d"), looks := false }, kinds := [], alts := [], laidByText := true, laidKinds := [.funcs], laidTests := true, laidLooks := .later }
def BurnClosedCardSaid : Prop := Claim7.holds Tryd.pinned (.plain (OpenSpec.ofChange burnClosedSpec)) burnClosedCard

/-- THE TIED CARD OF 'cottonpadlaw04.BurnLevel'. -/
def burnLevelCard : Claim7 := { stood := { row := burnLevelRow, standIns := [], harness := (true, "0c1a15f9f284616c6e4b5be0c32e4618b13354c74782cde6575634d5e986c29d"), looks := false }, kinds := [], alts := [], laidByText := true, laidKinds := [.funcs], laidTests := true, laidLooks := .later }
def BurnLevelCardSaid : Prop := Claim7.holds Tryd.pinned (.plain (OpenSpec.ofChange burnLevelSpec)) burnLevelCard

/-- THE TIED CARD OF 'cottonpadlaw04.BurnWider'. -/
def burnWiderCard : Claim7 := { stood := { row := burnWiderRow, standIns := [], harness := (true, "0c1a15f9f284616c6e4b5be0c32e4618b13354c74782cde6575634d5e986c29d"), looks := false }, kinds := [], alts := [], laidByText := true, laidKinds := [.funcs], laidTests := true, laidLooks := .later }
def BurnWiderCardSaid : Prop := Claim7.holds Tryd.pinned (.plain (OpenSpec.ofChange burnWiderSpec)) burnWiderCard

/-- THE TIED CARD OF 'cottonpadlaw04.BurnFouled'. -/
def burnFouledCard : Claim7 := { stood := { row := burnFouledRow, standIns := [], harness := (true, "0c1a15f9f284616c6e4b5be0c32e4618b13354c74782cde6575634d5e986c29d"), looks := false }, kinds := [], alts := [], laidByText := true, laidKinds := [.funcs], laidTests := true, laidLooks := .later }
def BurnFouledCardSaid : Prop := Claim7.holds Tryd.pinned (.plain (OpenSpec.ofChange burnFouledSpec)) burnFouledCard

/-- THE SECOND FORM's CARD OF 'cottonpadlaw04.BurnHeats'. -/
def burnHeatsUptoCard : Claim7 := { stood := { row := burnHeatsUptoRow, standIns := [], harness := (true, "0c1a15f9f284616c6e4b5be0c32e4618b13354c74782cde6575634d5e986c29d"), looks := false }, kinds := [], alts := [], laidByText := true, laidKinds := [.funcs], laidTests := true, laidLooks := .later }
def BurnHeatsUptoCardSaid : Prop := Claim7.holds Tryd.pinned (.plain (OpenSpec.upto burnHeatsSpec)) burnHeatsUptoCard

/-- THE SECOND FORM's CARD OF 'cottonpadlaw04.BurnExamples'. -/
def burnExamplesUptoCard : Claim7 := { stood := { row := burnExamplesUptoRow, standIns := [], harness := (true, "0c1a15f9f284616c6e4b5be0c32e4618b13354c74782cde6575634d5e986c29d"), looks := false }, kinds := [], alts := [], laidByText := true, laidKinds := [.funcs], laidTests := true, laidLooks := .later }
def BurnExamplesUptoCardSaid : Prop := Claim7.holds Tryd.pinned (.plain (OpenSpec.upto burnExamplesSpec)) burnExamplesUptoCard

/-- THE SECOND FORM's CARD OF 'cottonpadlaw04.BurnTrue'. -/
def burnTrueUptoCard : Claim7 := { stood := { row := burnTrueUptoRow, standIns := [], harness := (true, "0c1a15f9f284616c6e4b5be0c32e4618b13354c74782cde6575634d5e986c29d"), looks := false }, kinds := [], alts := [], laidByText := true, laidKinds := [.funcs], laidTests := true, laidLooks := .later }
def BurnTrueUptoCardSaid : Prop := Claim7.holds Tryd.pinned (.plain (OpenSpec.upto burnTrueSpec)) burnTrueUptoCard

/-- THE SECOND FORM's CARD OF 'cottonpadlaw04.BurnEnds'. -/
def burnEndsUptoCard : Claim7 := { stood := { row := burnEndsUptoRow, standIns := [], harness := (true, "0c1a15f9f284616c6e4b5be0c32e4618b13354c74782cde6575634d5e986c29d"), looks := false }, kinds := [], alts := [], laidByText := true, laidKinds := [.funcs], laidTests := true, laidLooks := .later }
def BurnEndsUptoCardSaid : Prop := Claim7.holds Tryd.pinned (.plain (OpenSpec.upto burnEndsSpec)) burnEndsUptoCard

/-- THE SECOND FORM's CARD OF 'cottonpadlaw04.BurnClosed'. -/
def burnClosedUptoCard : Claim7 := { stood := { row := burnClosedUptoRow, standIns := [], harness := (true, "0c1a15f9f284616c6e4b5be0c32e4618b13354c74782cde6575634d5e986c29d"), looks := false }, kinds := [], alts := [], laidByText := true, laidKinds := [.funcs], laidTests := true, laidLooks := .later }
def BurnClosedUptoCardSaid : Prop := Claim7.holds Tryd.pinned (.plain (OpenSpec.upto burnClosedSpec)) burnClosedUptoCard

/-- THE SECOND FORM's CARD OF 'cottonpadlaw04.BurnLevel'. -/
def burnLevelUptoCard : Claim7 := { stood := { row := burnLevelUptoRow, standIns := [], harness := (true, "0c1a15f9f284616c6e4b5be0c32e4618b13354c74782cde6575634d5e986c29d"), looks := false }, kinds := [], alts := [], laidByText := true, laidKinds := [.funcs], laidTests := true, laidLooks := .later }
def BurnLevelUptoCardSaid : Prop := Claim7.holds Tryd.pinned (.plain (OpenSpec.upto burnLevelSpec)) burnLevelUptoCard

/-- THE SECOND FORM's CARD OF 'cottonpadlaw04.BurnWider'. -/
def burnWiderUptoCard : Claim7 := { stood := { row := burnWiderUptoRow, standIns := [], harness := (true, "0c1a15f9f284616c6e4b5be0c32e4618b13354c74782cde6575634d5e986c29d"), looks := false }, kinds := [], alts := [], laidByText := true, laidKinds := [.funcs], laidTests := true, laidLooks := .later }
def BurnWiderUptoCardSaid : Prop := Claim7.holds Tryd.pinned (.plain (OpenSpec.upto burnWiderSpec)) burnWiderUptoCard

/-- THE SECOND FORM's CARD OF 'cottonpadlaw04.BurnFouled'. -/
def burnFouledUptoCard : Claim7 := { stood := { row := burnFouledUptoRow, standIns := [], harness := (true, "0c1a15f9f284616c6e4b5be0c32e4618b13354c74782cde6575634d5e986c29d"), looks := false }, kinds := [], alts := [], laidByText := true, laidKinds := [.funcs], laidTests := true, laidLooks := .later }
def BurnFouledUptoCardSaid : Prop := Claim7.holds Tryd.pinned (.plain (OpenSpec.upto burnFouledSpec)) burnFouledUptoCard
end Rows
end Go.Proofs.YtfgclmbndgakgaaDoor
