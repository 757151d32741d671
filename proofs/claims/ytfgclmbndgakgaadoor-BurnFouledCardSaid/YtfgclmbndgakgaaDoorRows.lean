/-
  NARROWER THAN 'FOR EVERY INPUT', by the rows' own cells (each row's printed sentence says how): BurnHeats: laid · BurnExamples: laid · BurnTrue: laid · BurnEnds: laid · BurnClosed: laid · BurnLevel: laid · BurnWider: laid · BurnFouled: laid.
  DERIVED. THE GIVEN ROWS OF THIS SEAT. 8 by the template 'for every input the law returns true; each argument reads behind the call as it read before'; 0 by the template 'total and deterministic' (their statements: YtfgclmbndgakgaaDoorTotals.lean).
  GIVEN WITH THE SEED: the statements are not yours to turn. If you find one false, say at which input.
  Laid BY PROGRAM, IN A SANDBOX (cutbox-rows.mjs): the forced cells as the released guide's own fill.sh prints them over the translation 4502d42e2456489e… (all of the seat's roots in one cut). By AI agents, Wed Nov 11 2026. No macro, syntax, notation, axiom, sorry.
-/
import Derived.Test.YtfgclmbndgakgaaDoorChecked
import GoSem.Claim
import GoSem.ClaimJoined
import GoSem.ClaimMapViews
import Derived.JoinedTies
import Derived.KernelRfl
namespace Go.Proofs.YtfgclmbndgakgaaDoor
/- THE CELL 'sum', in the pinned program and in every row, IS THE sha256 OF THE DUMP (.gsa) THAT YtfgclmbndgakgaaDoorProg.lean LOADS. Nothing in Lean hashes anything: it is a label: what it is worth is what the hold of that sum in a sandbox is worth. -/
noncomputable def Tryd.pinned : Pinned := { name := "ytfgclmbndgakgaadoor", sum := "4502d42e2456489eec2fe74873670fad448a771b64a7b53ad24b9f9052d319cd", checked := Tryd.checked }
namespace Rows
def none {H : Type} : Left H := { results := [], args := [] }

/- WHAT THE LISTED PACKAGE-LEVEL VARIABLES READ AS WHEN THE CALL BEGINS. Each datum BY PROGRAM (the guide's laid-datum.mjs) off the statement by which the dump's own 'gosem.cut.vars' lays the variable. In a bare row this is a premise. The card (YtfgclmbndgakgaaDoorCards.lean) ties it to the program's text. -/
def laid_cottonpad_burn_ends {H : Type} : DataW H := .iface "func table" (.agg [.agg [.iface "func" (.lit (.string [99, 111, 116, 116, 111, 110, 112, 97, 100, 47, 98, 117, 114, 110, 46, 101, 110, 100, 115, 36, 49])), .iface "func" (.lit (.string [99, 111, 116, 116, 111, 110, 112, 97, 100, 47, 98, 117, 114, 110, 46, 101, 110, 100, 115, 36, 50]))], .agg [.iface "func" (.lit (.string [99, 111, 116, 116, 111, 110, 112, 97, 100, 47, 98, 117, 114, 110, 46, 101, 110, 100, 115, 36, 51])), .iface "func" (.lit (.string [99, 111, 116, 116, 111, 110, 112, 97, 100, 47, 98, 117, 114, 110, 46, 101, 110, 100, 115, 36, 52]))]])

/-- 'cottonpadlaw04.BurnHeats': WHATEVER THE INPUT: true; the input reads as it did. -/
def burnHeatsSpec : ChangeSpec := { name := "burnHeats", fn := fun _ => fun
  | [d1, d2, d3, d4, d5, d6] => { results := [.lit (.bool true)], args := [d1, d2, d3, d4, d5, d6] }
  | _ => none }
def burnHeatsRow : OpenClaim := { program := "ytfgclmbndgakgaadoor", sum := "4502d42e2456489eec2fe74873670fad448a771b64a7b53ad24b9f9052d319cd", func := "cottonpad/cottonpadlaw04.BurnHeats", spec := "burnHeats", unfollowed := true, recurses := true, named := ["cottonpad/burn.ends"], apart := false, laid := [("cottonpad/burn.ends", laid_cottonpad_burn_ends)] }
def BurnHeatsSaid : Prop := burnHeatsRow.holds Tryd.pinned (OpenSpec.ofChange burnHeatsSpec)

/-- ITS FALSE NEIGHBOUR: 'it returns false'. Refute it at one input. -/
def burnHeatsWrong : ChangeSpec := { name := "burnHeats", fn := fun _ => fun
  | [d1, d2, d3, d4, d5, d6] => { results := [.lit (.bool false)], args := [d1, d2, d3, d4, d5, d6] }
  | _ => none }
def BurnHeatsWrongFalsely : Prop := burnHeatsRow.holds Tryd.pinned (OpenSpec.ofChange burnHeatsWrong)

/-- 'cottonpadlaw04.BurnExamples': WHATEVER THE INPUT: true; the input reads as it did. -/
def burnExamplesSpec : ChangeSpec := { name := "burnExamples", fn := fun _ => fun
  | [] => { results := [.lit (.bool true)], args := [] }
  | _ => none }
def burnExamplesRow : OpenClaim := { program := "ytfgclmbndgakgaadoor", sum := "4502d42e2456489eec2fe74873670fad448a771b64a7b53ad24b9f9052d319cd", func := "cottonpad/cottonpadlaw04.BurnExamples", spec := "burnExamples", unfollowed := true, recurses := true, named := ["cottonpad/burn.ends"], apart := false, laid := [("cottonpad/burn.ends", laid_cottonpad_burn_ends)] }
def BurnExamplesSaid : Prop := burnExamplesRow.holds Tryd.pinned (OpenSpec.ofChange burnExamplesSpec)

/-- ITS FALSE NEIGHBOUR: 'it returns false'. Refute it at one input. -/
def burnExamplesWrong : ChangeSpec := { name := "burnExamples", fn := fun _ => fun
  | [] => { results := [.lit (.bool false)], args := [] }
  | _ => none }
def BurnExamplesWrongFalsely : Prop := burnExamplesRow.holds Tryd.pinned (OpenSpec.ofChange burnExamplesWrong)

/-- 'cottonpadlaw04.BurnTrue': WHATEVER THE INPUT: true; the input reads as it did. -/
def burnTrueSpec : ChangeSpec := { name := "burnTrue", fn := fun _ => fun
  | [d1, d2, d3, d4, d5, d6] => { results := [.lit (.bool true)], args := [d1, d2, d3, d4, d5, d6] }
  | _ => none }
def burnTrueRow : OpenClaim := { program := "ytfgclmbndgakgaadoor", sum := "4502d42e2456489eec2fe74873670fad448a771b64a7b53ad24b9f9052d319cd", func := "cottonpad/cottonpadlaw04.BurnTrue", spec := "burnTrue", unfollowed := true, recurses := true, named := ["cottonpad/burn.ends"], apart := false, laid := [("cottonpad/burn.ends", laid_cottonpad_burn_ends)] }
def BurnTrueSaid : Prop := burnTrueRow.holds Tryd.pinned (OpenSpec.ofChange burnTrueSpec)

/-- ITS FALSE NEIGHBOUR: 'it returns false'. Refute it at one input. -/
def burnTrueWrong : ChangeSpec := { name := "burnTrue", fn := fun _ => fun
  | [d1, d2, d3, d4, d5, d6] => { results := [.lit (.bool false)], args := [d1, d2, d3, d4, d5, d6] }
  | _ => none }
def BurnTrueWrongFalsely : Prop := burnTrueRow.holds Tryd.pinned (OpenSpec.ofChange burnTrueWrong)

/-- 'cottonpadlaw04.BurnEnds': WHATEVER THE INPUT: true; the input reads as it did. -/
def burnEndsSpec : ChangeSpec := { name := "burnEnds", fn := fun _ => fun
  | [d1, d2, d3, d4, d5] => { results := [.lit (.bool true)], args := [d1, d2, d3, d4, d5] }
  | _ => none }
def burnEndsRow : OpenClaim := { program := "ytfgclmbndgakgaadoor", sum := "4502d42e2456489eec2fe74873670fad448a771b64a7b53ad24b9f9052d319cd", func := "cottonpad/cottonpadlaw04.BurnEnds", spec := "burnEnds", unfollowed := true, recurses := true, named := ["cottonpad/burn.ends"], apart := false, laid := [("cottonpad/burn.ends", laid_cottonpad_burn_ends)] }
def BurnEndsSaid : Prop := burnEndsRow.holds Tryd.pinned (OpenSpec.ofChange burnEndsSpec)

/-- ITS FALSE NEIGHBOUR: 'it returns false'. Refute it at one input. -/
def burnEndsWrong : ChangeSpec := { name := "burnEnds", fn := fun _ => fun
  | [d1, d2, d3, d4, d5] => { results := [.lit (.bool false)], args := [d1, d2, d3, d4, d5] }
  | _ => none }
def BurnEndsWrongFalsely : Prop := burnEndsRow.holds Tryd.pinned (OpenSpec.ofChange burnEndsWrong)

/-- 'cottonpadlaw04.BurnClosed': WHATEVER THE INPUT: true; the input reads as it did. -/
def burnClosedSpec : ChangeSpec := { name := "burnClosed", fn := fun _ => fun
  | [d1, d2, d3, d4, d5] => { results := [.lit (.bool true)], args := [d1, d2, d3, d4, d5] }
  | _ => none }
def burnClosedRow : OpenClaim := { program := "ytfgclmbndgakgaadoor", sum := "4502d42e2456489eec2fe74873670fad448a771b64a7b53ad24b9f9052d319cd", func := "cottonpad/cottonpadlaw04.BurnClosed", spec := "burnClosed", unfollowed := true, recurses := true, named := ["cottonpad/burn.ends"], apart := false, laid := [("cottonpad/burn.ends", laid_cottonpad_burn_ends)] }
def BurnClosedSaid : Prop := burnClosedRow.holds Tryd.pinned (OpenSpec.ofChange burnClosedSpec)

/-- ITS FALSE NEIGHBOUR: 'it returns false'. Refute it at one input. -/
def burnClosedWrong : ChangeSpec := { name := "burnClosed", fn := fun _ => fun
  | [d1, d2, d3, d4, d5] => { results := [.lit (.bool false)], args := [d1, d2, d3, d4, d5] }
  | _ => none }
def BurnClosedWrongFalsely : Prop := burnClosedRow.holds Tryd.pinned (OpenSpec.ofChange burnClosedWrong)

/-- 'cottonpadlaw04.BurnLevel': WHATEVER THE INPUT: true; the input reads as it did. -/
def burnLevelSpec : ChangeSpec := { name := "burnLevel", fn := fun _ => fun
  | [d1, d2, d3, d4] => { results := [.lit (.bool true)], args := [d1, d2, d3, d4] }
  | _ => none }
def burnLevelRow : OpenClaim := { program := "ytfgclmbndgakgaadoor", sum := "4502d42e2456489eec2fe74873670fad448a771b64a7b53ad24b9f9052d319cd", func := "cottonpad/cottonpadlaw04.BurnLevel", spec := "burnLevel", unfollowed := true, recurses := true, named := ["cottonpad/burn.ends"], apart := false, laid := [("cottonpad/burn.ends", laid_cottonpad_burn_ends)] }
def BurnLevelSaid : Prop := burnLevelRow.holds Tryd.pinned (OpenSpec.ofChange burnLevelSpec)

/-- ITS FALSE NEIGHBOUR: 'it returns false'. Refute it at one input. -/
def burnLevelWrong : ChangeSpec := { name := "burnLevel", fn := fun _ => fun
  | [d1, d2, d3, d4] => { results := [.lit (.bool false)], args := [d1, d2, d3, d4] }
  | _ => none }
def BurnLevelWrongFalsely : Prop := burnLevelRow.holds Tryd.pinned (OpenSpec.ofChange burnLevelWrong)

/-- 'cottonpadlaw04.BurnWider': WHATEVER THE INPUT: true; the input reads as it did. -/
def burnWiderSpec : ChangeSpec := { name := "burnWider", fn := fun _ => fun
  | [d1, d2, d3, d4, d5] => { results := [.lit (.bool true)], args := [d1, d2, d3, d4, d5] }
  | _ => none }
def burnWiderRow : OpenClaim := { program := "ytfgclmbndgakgaadoor", sum := "4502d42e2456489eec2fe74873670fad448a771b64a7b53ad24b9f9052d319cd", func := "cottonpad/cottonpadlaw04.BurnWider", spec := "burnWider", unfollowed := true, recurses := true, named := ["cottonpad/burn.ends"], apart := false, laid := [("cottonpad/burn.ends", laid_cottonpad_burn_ends)] }
def BurnWiderSaid : Prop := burnWiderRow.holds Tryd.pinned (OpenSpec.ofChange burnWiderSpec)

/-- ITS FALSE NEIGHBOUR: 'it returns false'. Refute it at one input. -/
def burnWiderWrong : ChangeSpec := { name := "burnWider", fn := fun _ => fun
  | [d1, d2, d3, d4, d5] => { results := [.lit (.bool false)], args := [d1, d2, d3, d4, d5] }
  | _ => none }
def BurnWiderWrongFalsely : Prop := burnWiderRow.holds Tryd.pinned (OpenSpec.ofChange burnWiderWrong)

/-- 'cottonpadlaw04.BurnFouled': WHATEVER THE INPUT: true; the input reads as it did. -/
def burnFouledSpec : ChangeSpec := { name := "burnFouled", fn := fun _ => fun
  | [d1, d2, d3, d4, d5] => { results := [.lit (.bool true)], args := [d1, d2, d3, d4, d5] }
  | _ => none }
def burnFouledRow : OpenClaim := { program := "ytfgclmbndgakgaadoor", sum := "4502d42e2456489eec2fe74873670fad448a771b64a7b53ad24b9f9052d319cd", func := "cottonpad/cottonpadlaw04.BurnFouled", spec := "burnFouled", unfollowed := true, recurses := true, named := ["cottonpad/burn.ends"], apart := false, laid := [("cottonpad/burn.ends", laid_cottonpad_burn_ends)] }
def BurnFouledSaid : Prop := burnFouledRow.holds Tryd.pinned (OpenSpec.ofChange burnFouledSpec)

/-- ITS FALSE NEIGHBOUR: 'it returns false'. Refute it at one input. -/
def burnFouledWrong : ChangeSpec := { name := "burnFouled", fn := fun _ => fun
  | [d1, d2, d3, d4, d5] => { results := [.lit (.bool false)], args := [d1, d2, d3, d4, d5] }
  | _ => none }
def BurnFouledWrongFalsely : Prop := burnFouledRow.holds Tryd.pinned (OpenSpec.ofChange burnFouledWrong)

/- THE SECOND FORM. 'bulk': how many values and letters a reading holds, each counted each time it is reached (what is shared counts as often as it is met; a slice's spare places count too). A statement '..UptoSaid' is the law's where the arguments, and the package variables that the reading takes, are together of bulk at most 1048576: NARROWER than '..Said'. Prove '..Said' where nothing that the law and all that it calls make is longer than what came in: it says more and counts as full. Else prove '..UptoSaid'. A law counts once. -/
mutual
def uptoBulk {H : Type} : DataW H → Nat
  | .lit (.string bytes) => bytes.length + 1
  | .lit _ => 1
  | .nil => 1
  | .ptr d => uptoBulk d + 1
  | .slice elems spare => uptoBulkAll elems + uptoBulkAll spare + 1
  | .agg parts => uptoBulkAll parts + 1
  | .iface _ d => uptoBulk d + 1
  | .map entries => uptoBulkEntries entries + 1
  | .held _ => 1
def uptoBulkAll {H : Type} : List (DataW H) → Nat
  | [] => 0
  | d :: r => uptoBulk d + uptoBulkAll r
def uptoBulkEntries {H : Type} : List (Lit × DataW H) → Nat
  | [] => 0
  | x :: r => uptoBulkEntry x + uptoBulkEntries r
def uptoBulkEntry {H : Type} : Lit × DataW H → Nat
  | (.string bytes, d) => bytes.length + uptoBulk d + 1
  | (_, d) => uptoBulk d + 1
 end
def uptoSmall : (H : Type) → List (DataW H) → Bool := fun _ ds => decide (uptoBulkAll ds ≤ 1048576)
def OpenSpec.upto (s : _root_.Go.ChangeSpec) : _root_.Go.OpenSpec := { _root_.Go.OpenSpec.ofChange s with cond := some uptoSmall }

/-- 'cottonpadlaw04.BurnHeats', WHERE WHAT IT READS IS OF BULK AT MOST 1048576: true; the input reads as it did. -/
def burnHeatsUptoRow : OpenClaim := { program := "ytfgclmbndgakgaadoor", sum := "4502d42e2456489eec2fe74873670fad448a771b64a7b53ad24b9f9052d319cd", func := "cottonpad/cottonpadlaw04.BurnHeats", spec := "burnHeats", unfollowed := true, recurses := true, named := ["cottonpad/burn.ends"], apart := false, laid := [("cottonpad/burn.ends", laid_cottonpad_burn_ends)], narrowed := true }
def BurnHeatsUptoSaid : Prop := burnHeatsUptoRow.holds Tryd.pinned (OpenSpec.upto burnHeatsSpec)

/-- 'cottonpadlaw04.BurnExamples', WHERE WHAT IT READS IS OF BULK AT MOST 1048576: true; the input reads as it did. -/
def burnExamplesUptoRow : OpenClaim := { program := "ytfgclmbndgakgaadoor", sum := "4502d42e2456489eec2fe74873670fad448a771b64a7b53ad24b9f9052d319cd", func := "cottonpad/cottonpadlaw04.BurnExamples", spec := "burnExamples", unfollowed := true, recurses := true, named := ["cottonpad/burn.ends"], apart := false, laid := [("cottonpad/burn.ends", laid_cottonpad_burn_ends)], narrowed := true }
def BurnExamplesUptoSaid : Prop := burnExamplesUptoRow.holds Tryd.pinned (OpenSpec.upto burnExamplesSpec)

/-- 'cottonpadlaw04.BurnTrue', WHERE WHAT IT READS IS OF BULK AT MOST 1048576: true; the input reads as it did. -/
def burnTrueUptoRow : OpenClaim := { program := "ytfgclmbndgakgaadoor", sum := "4502d42e2456489eec2fe74873670fad448a771b64a7b53ad24b9f9052d319cd", func := "cottonpad/cottonpadlaw04.BurnTrue", spec := "burnTrue", unfollowed := true, recurses := true, named := ["cottonpad/burn.ends"], apart := false, laid := [("cottonpad/burn.ends", laid_cottonpad_burn_ends)], narrowed := true }
def BurnTrueUptoSaid : Prop := burnTrueUptoRow.holds Tryd.pinned (OpenSpec.upto burnTrueSpec)

/-- 'cottonpadlaw04.BurnEnds', WHERE WHAT IT READS IS OF BULK AT MOST 1048576: true; the input reads as it did. -/
def burnEndsUptoRow : OpenClaim := { program := "ytfgclmbndgakgaadoor", sum := "4502d42e2456489eec2fe74873670fad448a771b64a7b53ad24b9f9052d319cd", func := "cottonpad/cottonpadlaw04.BurnEnds", spec := "burnEnds", unfollowed := true, recurses := true, named := ["cottonpad/burn.ends"], apart := false, laid := [("cottonpad/burn.ends", laid_cottonpad_burn_ends)], narrowed := true }
def BurnEndsUptoSaid : Prop := burnEndsUptoRow.holds Tryd.pinned (OpenSpec.upto burnEndsSpec)

/-- 'cottonpadlaw04.BurnClosed', WHERE WHAT IT READS IS OF BULK AT MOST 1048576: true; the input reads as it did. -/
def burnClosedUptoRow : OpenClaim := { program := "ytfgclmbndgakgaadoor", sum := "4502d42e2456489eec2fe74873670fad448a771b64a7b53ad24b9f9052d319cd", func := "cottonpad/cottonpadlaw04.BurnClosed", spec := "burnClosed", unfollowed := true, recurses := true, named := ["cottonpad/burn.ends"], apart := false, laid := [("cottonpad/burn.ends", laid_cottonpad_burn_ends)], narrowed := true }
def BurnClosedUptoSaid : Prop := burnClosedUptoRow.holds Tryd.pinned (OpenSpec.upto burnClosedSpec)

/-- 'cottonpadlaw04.BurnLevel', WHERE WHAT IT READS IS OF BULK AT MOST 1048576: true; the input reads as it did. -/
def burnLevelUptoRow : OpenClaim := { program := "ytfgclmbndgakgaadoor", sum := "4502d42e2456489eec2fe74873670fad448a771b64a7b53ad24b9f9052d319cd", func := "cottonpad/cottonpadlaw04.BurnLevel", spec := "burnLevel", unfollowed := true, recurses := true, named := ["cottonpad/burn.ends"], apart := false, laid := [("cottonpad/burn.ends", laid_cottonpad_burn_ends)], narrowed := true }
def BurnLevelUptoSaid : Prop := burnLevelUptoRow.holds Tryd.pinned (OpenSpec.upto burnLevelSpec)

/-- 'cottonpadlaw04.BurnWider', WHERE WHAT IT READS IS OF BULK AT MOST 1048576: true; the input reads as it did. -/
def burnWiderUptoRow : OpenClaim := { program := "ytfgclmbndgakgaadoor", sum := "4502d42e2456489eec2fe74873670fad448a771b64a7b53ad24b9f9052d319cd", func := "cottonpad/cottonpadlaw04.BurnWider", spec := "burnWider", unfollowed := true, recurses := true, named := ["cottonpad/burn.ends"], apart := false, laid := [("cottonpad/burn.ends", laid_cottonpad_burn_ends)], narrowed := true }
def BurnWiderUptoSaid : Prop := burnWiderUptoRow.holds Tryd.pinned (OpenSpec.upto burnWiderSpec)

/-- 'cottonpadlaw04.BurnFouled', WHERE WHAT IT READS IS OF BULK AT MOST 1048576: true; the input reads as it did. -/
def burnFouledUptoRow : OpenClaim := { program := "ytfgclmbndgakgaadoor", sum := "4502d42e2456489eec2fe74873670fad448a771b64a7b53ad24b9f9052d319cd", func := "cottonpad/cottonpadlaw04.BurnFouled", spec := "burnFouled", unfollowed := true, recurses := true, named := ["cottonpad/burn.ends"], apart := false, laid := [("cottonpad/burn.ends", laid_cottonpad_burn_ends)], narrowed := true }
def BurnFouledUptoSaid : Prop := burnFouledUptoRow.holds Tryd.pinned (OpenSpec.upto burnFouledSpec)

end Rows
end Go.Proofs.YtfgclmbndgakgaaDoor
