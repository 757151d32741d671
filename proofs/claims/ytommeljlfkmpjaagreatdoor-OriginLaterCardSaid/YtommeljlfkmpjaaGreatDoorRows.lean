/-
  NARROWER THAN 'FOR EVERY INPUT', by the rows' own cells (each row's printed sentence says how): OriginExcludes: laid · OriginTold: laid · OriginSo: laid · OriginNamed: laid · OriginWitness: laid · OriginAgainst: laid · OriginMore: laid · OriginLater: laid · OriginFree: laid.
  DERIVED. THE GIVEN ROWS OF THIS SEAT. 9 by the template 'for every input the law returns true; each argument reads behind the call as it read before'; 0 by the template 'total and deterministic' (their statements: YtommeljlfkmpjaaGreatDoorTotals.lean).
  GIVEN WITH THE SEED: the statements are not yours to turn. If you find one false, say at which input.
  Laid BY PROGRAM, IN A SANDBOX (cutbox-rows.mjs): the forced cells as the released guide's own fill.sh prints them over the translation 7fdab20ceb99970e… (all of the seat's roots in one cut). By AI agents, Wed Nov 11 2026. No macro, syntax, notation, axiom, sorry.
-/
import Derived.Test.YtommeljlfkmpjaaGreatDoorChecked
import GoSem.Claim
import GoSem.ClaimJoined
import GoSem.ClaimMapViews
import Derived.JoinedTies
import Derived.KernelRfl
namespace Go.Proofs.YtommeljlfkmpjaaGreatDoor
/- THE CELL 'sum', in the pinned program and in every row, IS THE sha256 OF THE DUMP (.gsa) THAT YtommeljlfkmpjaaGreatDoorProg.lean LOADS. Nothing in Lean hashes anything: it is a label: what it is worth is what the hold of that sum in a sandbox is worth. -/
noncomputable def Tryz.pinned : Pinned := { name := "ytommeljlfkmpjaagreatdoor", sum := "7fdab20ceb99970e15fe16b27d67b1b2605149cfe70055b1d622766be89ef07e", checked := Tryz.checked }
namespace Rows
def none {H : Type} : Left H := { results := [], args := [] }

/- WHAT THE LISTED PACKAGE-LEVEL VARIABLES READ AS WHEN THE CALL BEGINS. Each datum BY PROGRAM (the guide's laid-datum.mjs) off the statement by which the dump's own 'gosem.cut.vars' lays the variable. In a bare row this is a premise. The card (YtommeljlfkmpjaaGreatDoorCards.lean) ties it to the program's text. -/
def laid_cottonpad_origin_nowhere {H : Type} : DataW H := .agg [.lit (.int .i64 1073741824), .lit (.int .i64 (-1073741824))]

/-- 'cottonpadlaw09.OriginExcludes': WHATEVER THE INPUT: true; the input reads as it did. -/
def originExcludesSpec : ChangeSpec := { name := "originExcludes", fn := fun _ => fun
  | [d1, d2] => { results := [.lit (.bool true)], args := [d1, d2] }
  | _ => none }
def originExcludesRow : OpenClaim := { program := "ytommeljlfkmpjaagreatdoor", sum := "7fdab20ceb99970e15fe16b27d67b1b2605149cfe70055b1d622766be89ef07e", func := "cottonpad/cottonpadlaw09.OriginExcludes", spec := "originExcludes", unfollowed := true, recurses := true, named := ["cottonpad/origin.nowhere"], apart := false, laid := [("cottonpad/origin.nowhere", laid_cottonpad_origin_nowhere)] }
def OriginExcludesSaid : Prop := originExcludesRow.holds Tryz.pinned (OpenSpec.ofChange originExcludesSpec)

/-- ITS FALSE NEIGHBOUR: 'it returns false'. Refute it at one input. -/
def originExcludesWrong : ChangeSpec := { name := "originExcludes", fn := fun _ => fun
  | [d1, d2] => { results := [.lit (.bool false)], args := [d1, d2] }
  | _ => none }
def OriginExcludesWrongFalsely : Prop := originExcludesRow.holds Tryz.pinned (OpenSpec.ofChange originExcludesWrong)

/-- 'cottonpadlaw09.OriginTold': WHATEVER THE INPUT: true; the input reads as it did. -/
def originToldSpec : ChangeSpec := { name := "originTold", fn := fun _ => fun
  | [d1, d2, d3] => { results := [.lit (.bool true)], args := [d1, d2, d3] }
  | _ => none }
def originToldRow : OpenClaim := { program := "ytommeljlfkmpjaagreatdoor", sum := "7fdab20ceb99970e15fe16b27d67b1b2605149cfe70055b1d622766be89ef07e", func := "cottonpad/cottonpadlaw09.OriginTold", spec := "originTold", unfollowed := true, recurses := true, named := ["cottonpad/origin.nowhere"], apart := false, laid := [("cottonpad/origin.nowhere", laid_cottonpad_origin_nowhere)] }
def OriginToldSaid : Prop := originToldRow.holds Tryz.pinned (OpenSpec.ofChange originToldSpec)

/-- ITS FALSE NEIGHBOUR: 'it returns false'. Refute it at one input. -/
def originToldWrong : ChangeSpec := { name := "originTold", fn := fun _ => fun
  | [d1, d2, d3] => { results := [.lit (.bool false)], args := [d1, d2, d3] }
  | _ => none }
def OriginToldWrongFalsely : Prop := originToldRow.holds Tryz.pinned (OpenSpec.ofChange originToldWrong)

/-- 'cottonpadlaw09.OriginSo': WHATEVER THE INPUT: true; the input reads as it did. -/
def originSoSpec : ChangeSpec := { name := "originSo", fn := fun _ => fun
  | [d1, d2, d3, d4] => { results := [.lit (.bool true)], args := [d1, d2, d3, d4] }
  | _ => none }
def originSoRow : OpenClaim := { program := "ytommeljlfkmpjaagreatdoor", sum := "7fdab20ceb99970e15fe16b27d67b1b2605149cfe70055b1d622766be89ef07e", func := "cottonpad/cottonpadlaw09.OriginSo", spec := "originSo", unfollowed := true, recurses := true, named := ["cottonpad/origin.nowhere"], apart := false, laid := [("cottonpad/origin.nowhere", laid_cottonpad_origin_nowhere)] }
def OriginSoSaid : Prop := originSoRow.holds Tryz.pinned (OpenSpec.ofChange originSoSpec)

/-- ITS FALSE NEIGHBOUR: 'it returns false'. Refute it at one input. -/
def originSoWrong : ChangeSpec := { name := "originSo", fn := fun _ => fun
  | [d1, d2, d3, d4] => { results := [.lit (.bool false)], args := [d1, d2, d3, d4] }
  | _ => none }
def OriginSoWrongFalsely : Prop := originSoRow.holds Tryz.pinned (OpenSpec.ofChange originSoWrong)

/-- 'cottonpadlaw09.OriginNamed': WHATEVER THE INPUT: true; the input reads as it did. -/
def originNamedSpec : ChangeSpec := { name := "originNamed", fn := fun _ => fun
  | [d1, d2] => { results := [.lit (.bool true)], args := [d1, d2] }
  | _ => none }
def originNamedRow : OpenClaim := { program := "ytommeljlfkmpjaagreatdoor", sum := "7fdab20ceb99970e15fe16b27d67b1b2605149cfe70055b1d622766be89ef07e", func := "cottonpad/cottonpadlaw09.OriginNamed", spec := "originNamed", unfollowed := true, recurses := true, named := ["cottonpad/origin.nowhere"], apart := false, laid := [("cottonpad/origin.nowhere", laid_cottonpad_origin_nowhere)] }
def OriginNamedSaid : Prop := originNamedRow.holds Tryz.pinned (OpenSpec.ofChange originNamedSpec)

/-- ITS FALSE NEIGHBOUR: 'it returns false'. Refute it at one input. -/
def originNamedWrong : ChangeSpec := { name := "originNamed", fn := fun _ => fun
  | [d1, d2] => { results := [.lit (.bool false)], args := [d1, d2] }
  | _ => none }
def OriginNamedWrongFalsely : Prop := originNamedRow.holds Tryz.pinned (OpenSpec.ofChange originNamedWrong)

/-- 'cottonpadlaw09.OriginWitness': WHATEVER THE INPUT: true; the input reads as it did. -/
def originWitnessSpec : ChangeSpec := { name := "originWitness", fn := fun _ => fun
  | [d1, d2, d3] => { results := [.lit (.bool true)], args := [d1, d2, d3] }
  | _ => none }
def originWitnessRow : OpenClaim := { program := "ytommeljlfkmpjaagreatdoor", sum := "7fdab20ceb99970e15fe16b27d67b1b2605149cfe70055b1d622766be89ef07e", func := "cottonpad/cottonpadlaw09.OriginWitness", spec := "originWitness", unfollowed := true, recurses := true, named := ["cottonpad/origin.nowhere"], apart := false, laid := [("cottonpad/origin.nowhere", laid_cottonpad_origin_nowhere)] }
def OriginWitnessSaid : Prop := originWitnessRow.holds Tryz.pinned (OpenSpec.ofChange originWitnessSpec)

/-- ITS FALSE NEIGHBOUR: 'it returns false'. Refute it at one input. -/
def originWitnessWrong : ChangeSpec := { name := "originWitness", fn := fun _ => fun
  | [d1, d2, d3] => { results := [.lit (.bool false)], args := [d1, d2, d3] }
  | _ => none }
def OriginWitnessWrongFalsely : Prop := originWitnessRow.holds Tryz.pinned (OpenSpec.ofChange originWitnessWrong)

/-- 'cottonpadlaw09.OriginAgainst': WHATEVER THE INPUT: true; the input reads as it did. -/
def originAgainstSpec : ChangeSpec := { name := "originAgainst", fn := fun _ => fun
  | [d] => { results := [.lit (.bool true)], args := [d] }
  | _ => none }
def originAgainstRow : OpenClaim := { program := "ytommeljlfkmpjaagreatdoor", sum := "7fdab20ceb99970e15fe16b27d67b1b2605149cfe70055b1d622766be89ef07e", func := "cottonpad/cottonpadlaw09.OriginAgainst", spec := "originAgainst", unfollowed := true, recurses := true, named := ["cottonpad/origin.nowhere"], apart := false, laid := [("cottonpad/origin.nowhere", laid_cottonpad_origin_nowhere)] }
def OriginAgainstSaid : Prop := originAgainstRow.holds Tryz.pinned (OpenSpec.ofChange originAgainstSpec)

/-- ITS FALSE NEIGHBOUR: 'it returns false'. Refute it at one input. -/
def originAgainstWrong : ChangeSpec := { name := "originAgainst", fn := fun _ => fun
  | [d] => { results := [.lit (.bool false)], args := [d] }
  | _ => none }
def OriginAgainstWrongFalsely : Prop := originAgainstRow.holds Tryz.pinned (OpenSpec.ofChange originAgainstWrong)

/-- 'cottonpadlaw09.OriginMore': WHATEVER THE INPUT: true; the input reads as it did. -/
def originMoreSpec : ChangeSpec := { name := "originMore", fn := fun _ => fun
  | [d1, d2, d3] => { results := [.lit (.bool true)], args := [d1, d2, d3] }
  | _ => none }
def originMoreRow : OpenClaim := { program := "ytommeljlfkmpjaagreatdoor", sum := "7fdab20ceb99970e15fe16b27d67b1b2605149cfe70055b1d622766be89ef07e", func := "cottonpad/cottonpadlaw09.OriginMore", spec := "originMore", unfollowed := true, recurses := true, named := ["cottonpad/origin.nowhere"], apart := false, laid := [("cottonpad/origin.nowhere", laid_cottonpad_origin_nowhere)] }
def OriginMoreSaid : Prop := originMoreRow.holds Tryz.pinned (OpenSpec.ofChange originMoreSpec)

/-- ITS FALSE NEIGHBOUR: 'it returns false'. Refute it at one input. -/
def originMoreWrong : ChangeSpec := { name := "originMore", fn := fun _ => fun
  | [d1, d2, d3] => { results := [.lit (.bool false)], args := [d1, d2, d3] }
  | _ => none }
def OriginMoreWrongFalsely : Prop := originMoreRow.holds Tryz.pinned (OpenSpec.ofChange originMoreWrong)

/-- 'cottonpadlaw09.OriginLater': WHATEVER THE INPUT: true; the input reads as it did. -/
def originLaterSpec : ChangeSpec := { name := "originLater", fn := fun _ => fun
  | [d1, d2, d3, d4, d5] => { results := [.lit (.bool true)], args := [d1, d2, d3, d4, d5] }
  | _ => none }
def originLaterRow : OpenClaim := { program := "ytommeljlfkmpjaagreatdoor", sum := "7fdab20ceb99970e15fe16b27d67b1b2605149cfe70055b1d622766be89ef07e", func := "cottonpad/cottonpadlaw09.OriginLater", spec := "originLater", unfollowed := true, recurses := true, named := ["cottonpad/origin.nowhere"], apart := false, laid := [("cottonpad/origin.nowhere", laid_cottonpad_origin_nowhere)] }
def OriginLaterSaid : Prop := originLaterRow.holds Tryz.pinned (OpenSpec.ofChange originLaterSpec)

/-- ITS FALSE NEIGHBOUR: 'it returns false'. Refute it at one input. -/
def originLaterWrong : ChangeSpec := { name := "originLater", fn := fun _ => fun
  | [d1, d2, d3, d4, d5] => { results := [.lit (.bool false)], args := [d1, d2, d3, d4, d5] }
  | _ => none }
def OriginLaterWrongFalsely : Prop := originLaterRow.holds Tryz.pinned (OpenSpec.ofChange originLaterWrong)

/-- 'cottonpadlaw09.OriginFree': WHATEVER THE INPUT: true; the input reads as it did. -/
def originFreeSpec : ChangeSpec := { name := "originFree", fn := fun _ => fun
  | [d1, d2, d3] => { results := [.lit (.bool true)], args := [d1, d2, d3] }
  | _ => none }
def originFreeRow : OpenClaim := { program := "ytommeljlfkmpjaagreatdoor", sum := "7fdab20ceb99970e15fe16b27d67b1b2605149cfe70055b1d622766be89ef07e", func := "cottonpad/cottonpadlaw09.OriginFree", spec := "originFree", unfollowed := true, recurses := true, named := ["cottonpad/origin.nowhere"], apart := false, laid := [("cottonpad/origin.nowhere", laid_cottonpad_origin_nowhere)] }
def OriginFreeSaid : Prop := originFreeRow.holds Tryz.pinned (OpenSpec.ofChange originFreeSpec)

/-- ITS FALSE NEIGHBOUR: 'it returns false'. Refute it at one input. -/
def originFreeWrong : ChangeSpec := { name := "originFree", fn := fun _ => fun
  | [d1, d2, d3] => { results := [.lit (.bool false)], args := [d1, d2, d3] }
  | _ => none }
def OriginFreeWrongFalsely : Prop := originFreeRow.holds Tryz.pinned (OpenSpec.ofChange originFreeWrong)

/- THE SECOND FORM. 'bulk': how many values and letters a reading holds, each counted each time it is reached (what is shared counts as often as it is met; a slice's spare places count too). A statement '..UptoSaid' is the law's where the arguments, and the package variables that the reading takes, are together of bulk at most 1048576: NARROWER than '..Said'. Prove '..Said' where nothing that the law and all that it calls make is longer than what came in: it says more and counts as full. Else prove '..UptoSaid'. A law counts once. -/
mutual
def uptoBulk {H : Type} : DataW H → Nat
  | .lit (.string bytes) => bytes.length + 1
  | .lit _ => 1
  | .nil => 1
  | .ptr d => uptoBulk d + 1
  | .slice elems spare => uptoBulkAll elems + uptoBulkAll spare + 1
  | .agg parts => uptoBulkAll parts + 1
  | .iface _ d => uptoBulk d + 1
  | .map entries => uptoBulkEntries entries + 1
  | .held _ => 1
def uptoBulkAll {H : Type} : List (DataW H) → Nat
  | [] => 0
  | d :: r => uptoBulk d + uptoBulkAll r
def uptoBulkEntries {H : Type} : List (Lit × DataW H) → Nat
  | [] => 0
  | x :: r => uptoBulkEntry x + uptoBulkEntries r
def uptoBulkEntry {H : Type} : Lit × DataW H → Nat
  | (.string bytes, d) => bytes.length + uptoBulk d + 1
  | (_, d) => uptoBulk d + 1
 end
def uptoSmall : (H : Type) → List (DataW H) → Bool := fun _ ds => decide (uptoBulkAll ds ≤ 1048576)
def OpenSpec.upto (s : _root_.Go.ChangeSpec) : _root_.Go.OpenSpec := { _root_.Go.OpenSpec.ofChange s with cond := some uptoSmall }

/-- 'cottonpadlaw09.OriginExcludes', WHERE WHAT IT READS IS OF BULK AT MOST 1048576: true; the input reads as it did. -/
def originExcludesUptoRow : OpenClaim := { program := "ytommeljlfkmpjaagreatdoor", sum := "7fdab20ceb99970e15fe16b27d67b1b2605149cfe70055b1d622766be89ef07e", func := "cottonpad/cottonpadlaw09.OriginExcludes", spec := "originExcludes", unfollowed := true, recurses := true, named := ["cottonpad/origin.nowhere"], apart := false, laid := [("cottonpad/origin.nowhere", laid_cottonpad_origin_nowhere)], narrowed := true }
def OriginExcludesUptoSaid : Prop := originExcludesUptoRow.holds Tryz.pinned (OpenSpec.upto originExcludesSpec)

/-- 'cottonpadlaw09.OriginTold', WHERE WHAT IT READS IS OF BULK AT MOST 1048576: true; the input reads as it did. -/
def originToldUptoRow : OpenClaim := { program := "ytommeljlfkmpjaagreatdoor", sum := "7fdab20ceb99970e15fe16b27d67b1b2605149cfe70055b1d622766be89ef07e", func := "cottonpad/cottonpadlaw09.OriginTold", spec := "originTold", unfollowed := true, recurses := true, named := ["cottonpad/origin.nowhere"], apart := false, laid := [("cottonpad/origin.nowhere", laid_cottonpad_origin_nowhere)], narrowed := true }
def OriginToldUptoSaid : Prop := originToldUptoRow.holds Tryz.pinned (OpenSpec.upto originToldSpec)

/-- 'cottonpadlaw09.OriginSo', WHERE WHAT IT READS IS OF BULK AT MOST 1048576: true; the input reads as it did. -/
def originSoUptoRow : OpenClaim := { program := "ytommeljlfkmpjaagreatdoor", sum := "7fdab20ceb99970e15fe16b27d67b1b2605149cfe70055b1d622766be89ef07e", func := "cottonpad/cottonpadlaw09.OriginSo", spec := "originSo", unfollowed := true, recurses := true, named := ["cottonpad/origin.nowhere"], apart := false, laid := [("cottonpad/origin.nowhere", laid_cottonpad_origin_nowhere)], narrowed := true }
def OriginSoUptoSaid : Prop := originSoUptoRow.holds Tryz.pinned (OpenSpec.upto originSoSpec)

/-- 'cottonpadlaw09.OriginNamed', WHERE WHAT IT READS IS OF BULK AT MOST 1048576: true; the input reads as it did. -/
def originNamedUptoRow : OpenClaim := { program := "ytommeljlfkmpjaagreatdoor", sum := "7fdab20ceb99970e15fe16b27d67b1b2605149cfe70055b1d622766be89ef07e", func := "cottonpad/cottonpadlaw09.OriginNamed", spec := "originNamed", unfollowed := true, recurses := true, named := ["cottonpad/origin.nowhere"], apart := false, laid := [("cottonpad/origin.nowhere", laid_cottonpad_origin_nowhere)], narrowed := true }
def OriginNamedUptoSaid : Prop := originNamedUptoRow.holds Tryz.pinned (OpenSpec.upto originNamedSpec)

/-- 'cottonpadlaw09.OriginWitness', WHERE WHAT IT READS IS OF BULK AT MOST 1048576: true; the input reads as it did. -/
def originWitnessUptoRow : OpenClaim := { program := "ytommeljlfkmpjaagreatdoor", sum := "7fdab20ceb99970e15fe16b27d67b1b2605149cfe70055b1d622766be89ef07e", func := "cottonpad/cottonpadlaw09.OriginWitness", spec := "originWitness", unfollowed := true, recurses := true, named := ["cottonpad/origin.nowhere"], apart := false, laid := [("cottonpad/origin.nowhere", laid_cottonpad_origin_nowhere)], narrowed := true }
def OriginWitnessUptoSaid : Prop := originWitnessUptoRow.holds Tryz.pinned (OpenSpec.upto originWitnessSpec)

/-- 'cottonpadlaw09.OriginAgainst', WHERE WHAT IT READS IS OF BULK AT MOST 1048576: true; the input reads as it did. -/
def originAgainstUptoRow : OpenClaim := { program := "ytommeljlfkmpjaagreatdoor", sum := "7fdab20ceb99970e15fe16b27d67b1b2605149cfe70055b1d622766be89ef07e", func := "cottonpad/cottonpadlaw09.OriginAgainst", spec := "originAgainst", unfollowed := true, recurses := true, named := ["cottonpad/origin.nowhere"], apart := false, laid := [("cottonpad/origin.nowhere", laid_cottonpad_origin_nowhere)], narrowed := true }
def OriginAgainstUptoSaid : Prop := originAgainstUptoRow.holds Tryz.pinned (OpenSpec.upto originAgainstSpec)

/-- 'cottonpadlaw09.OriginMore', WHERE WHAT IT READS IS OF BULK AT MOST 1048576: true; the input reads as it did. -/
def originMoreUptoRow : OpenClaim := { program := "ytommeljlfkmpjaagreatdoor", sum := "7fdab20ceb99970e15fe16b27d67b1b2605149cfe70055b1d622766be89ef07e", func := "cottonpad/cottonpadlaw09.OriginMore", spec := "originMore", unfollowed := true, recurses := true, named := ["cottonpad/origin.nowhere"], apart := false, laid := [("cottonpad/origin.nowhere", laid_cottonpad_origin_nowhere)], narrowed := true }
def OriginMoreUptoSaid : Prop := originMoreUptoRow.holds Tryz.pinned (OpenSpec.upto originMoreSpec)

/-- 'cottonpadlaw09.OriginLater', WHERE WHAT IT READS IS OF BULK AT MOST 1048576: true; the input reads as it did. -/
def originLaterUptoRow : OpenClaim := { program := "ytommeljlfkmpjaagreatdoor", sum := "7fdab20ceb99970e15fe16b27d67b1b2605149cfe70055b1d622766be89ef07e", func := "cottonpad/cottonpadlaw09.OriginLater", spec := "originLater", unfollowed := true, recurses := true, named := ["cottonpad/origin.nowhere"], apart := false, laid := [("cottonpad/origin.nowhere", laid_cottonpad_origin_nowhere)], narrowed := true }
def OriginLaterUptoSaid : Prop := originLaterUptoRow.holds Tryz.pinned (OpenSpec.upto originLaterSpec)

/-- 'cottonpadlaw09.OriginFree', WHERE WHAT IT READS IS OF BULK AT MOST 1048576: true; the input reads as it did. -/
def originFreeUptoRow : OpenClaim := { program := "ytommeljlfkmpjaagreatdoor", sum := "7fdab20ceb99970e15fe16b27d67b1b2605149cfe70055b1d622766be89ef07e", func := "cottonpad/cottonpadlaw09.OriginFree", spec := "originFree", unfollowed := true, recurses := true, named := ["cottonpad/origin.nowhere"], apart := false, laid := [("cottonpad/origin.nowhere", laid_cottonpad_origin_nowhere)], narrowed := true }
def OriginFreeUptoSaid : Prop := originFreeUptoRow.holds Tryz.pinned (OpenSpec.upto originFreeSpec)

end Rows
end Go.Proofs.YtommeljlfkmpjaaGreatDoor
