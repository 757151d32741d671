/-
  NARROWER THAN 'FOR EVERY INPUT', by the rows' own cells (each row's printed sentence says how): OriginTells: laid · OriginExamples: laid.
  DERIVED. THE GIVEN ROWS OF THIS SEAT. 2 by the template 'for every input the law returns true; each argument reads behind the call as it read before'; 0 by the template 'total and deterministic' (their statements: YtommeljlfkmpjaaDoorTotals.lean).
  GIVEN WITH THE SEED: the statements are not yours to turn. If you find one false, say at which input.
  Laid BY PROGRAM, IN A SANDBOX (cutbox-rows.mjs): the forced cells as the released guide's own fill.sh prints them over the translation 85a676f4b6a82acc… (all of the seat's roots in one cut). By AI agents, Wed Nov 11 2026. No macro, syntax, notation, axiom, sorry.
-/
import Derived.Test.YtommeljlfkmpjaaDoorChecked
import GoSem.Claim
import GoSem.ClaimJoined
import GoSem.ClaimMapViews
import Derived.JoinedTies
import Derived.KernelRfl
namespace Go.Proofs.YtommeljlfkmpjaaDoor
/- THE CELL 'sum', in the pinned program and in every row, IS THE sha256 OF THE DUMP (.gsa) THAT YtommeljlfkmpjaaDoorProg.lean LOADS. Nothing in Lean hashes anything: it is a label: what it is worth is what the hold of that sum in a sandbox is worth. -/
noncomputable def Tryd.pinned : Pinned := { name := "ytommeljlfkmpjaadoor", sum := "85a676f4b6a82accfa608b8c05a3d4078b74f838596f84cf1683ecdc47f15d05", checked := Tryd.checked }
namespace Rows
def none {H : Type} : Left H := { results := [], args := [] }

/- WHAT THE LISTED PACKAGE-LEVEL VARIABLES READ AS WHEN THE CALL BEGINS. Each datum BY PROGRAM (the guide's laid-datum.mjs) off the statement by which the dump's own 'gosem.cut.vars' lays the variable. In a bare row this is a premise. The card (YtommeljlfkmpjaaDoorCards.lean) ties it to the program's text. -/
def laid_cottonpad_origin_nowhere {H : Type} : DataW H := .agg [.lit (.int .i64 1073741824), .lit (.int .i64 (-1073741824))]

/-- 'cottonpadlaw09.OriginTells': WHATEVER THE INPUT: true; the input reads as it did. -/
def originTellsSpec : ChangeSpec := { name := "originTells", fn := fun _ => fun
  | [d1, d2, d3] => { results := [.lit (.bool true)], args := [d1, d2, d3] }
  | _ => none }
def originTellsRow : OpenClaim := { program := "ytommeljlfkmpjaadoor", sum := "85a676f4b6a82accfa608b8c05a3d4078b74f838596f84cf1683ecdc47f15d05", func := "cottonpad/cottonpadlaw09.OriginTells", spec := "originTells", unfollowed := true, recurses := true, named := ["cottonpad/origin.nowhere"], apart := false, laid := [("cottonpad/origin.nowhere", laid_cottonpad_origin_nowhere)] }
def OriginTellsSaid : Prop := originTellsRow.holds Tryd.pinned (OpenSpec.ofChange originTellsSpec)

/-- ITS FALSE NEIGHBOUR: 'it returns false'. Refute it at one input. -/
def originTellsWrong : ChangeSpec := { name := "originTells", fn := fun _ => fun
  | [d1, d2, d3] => { results := [.lit (.bool false)], args := [d1, d2, d3] }
  | _ => none }
def OriginTellsWrongFalsely : Prop := originTellsRow.holds Tryd.pinned (OpenSpec.ofChange originTellsWrong)

/-- 'cottonpadlaw09.OriginExamples': WHATEVER THE INPUT: true; the input reads as it did. -/
def originExamplesSpec : ChangeSpec := { name := "originExamples", fn := fun _ => fun
  | [] => { results := [.lit (.bool true)], args := [] }
  | _ => none }
def originExamplesRow : OpenClaim := { program := "ytommeljlfkmpjaadoor", sum := "85a676f4b6a82accfa608b8c05a3d4078b74f838596f84cf1683ecdc47f15d05", func := "cottonpad/cottonpadlaw09.OriginExamples", spec := "originExamples", unfollowed := true, recurses := true, named := ["cottonpad/origin.nowhere"], apart := false, laid := [("cottonpad/origin.nowhere", laid_cottonpad_origin_nowhere)] }
def OriginExamplesSaid : Prop := originExamplesRow.holds Tryd.pinned (OpenSpec.ofChange originExamplesSpec)

/-- ITS FALSE NEIGHBOUR: 'it returns false'. Refute it at one input. -/
def originExamplesWrong : ChangeSpec := { name := "originExamples", fn := fun _ => fun
  | [] => { results := [.lit (.bool false)], args := [] }
  | _ => none }
def OriginExamplesWrongFalsely : Prop := originExamplesRow.holds Tryd.pinned (OpenSpec.ofChange originExamplesWrong)

/- THE SECOND FORM. 'bulk': how many values and letters a reading holds, each counted each time it is reached (what is shared counts as often as it is met; a slice's spare places count too). A statement '..UptoSaid' is the law's where the arguments, and the package variables that the reading takes, are together of bulk at most 1048576: NARROWER than '..Said'. Prove '..Said' where nothing that the law and all that it calls make is longer than what came in: it says more and counts as full. Else prove '..UptoSaid'. A law counts once. -/
mutual
def uptoBulk {H : Type} : DataW H → Nat
  | .lit (.string bytes) => bytes.length + 1
  | .lit _ => 1
  | .nil => 1
  | .ptr d => uptoBulk d + 1
  | .slice elems spare => uptoBulkAll elems + uptoBulkAll spare + 1
  | .agg parts => uptoBulkAll parts + 1
  | .iface _ d => uptoBulk d + 1
  | .map entries => uptoBulkEntries entries + 1
  | .held _ => 1
def uptoBulkAll {H : Type} : List (DataW H) → Nat
  | [] => 0
  | d :: r => uptoBulk d + uptoBulkAll r
def uptoBulkEntries {H : Type} : List (Lit × DataW H) → Nat
  | [] => 0
  | x :: r => uptoBulkEntry x + uptoBulkEntries r
def uptoBulkEntry {H : Type} : Lit × DataW H → Nat
  | (.string bytes, d) => bytes.length + uptoBulk d + 1
  | (_, d) => uptoBulk d + 1
 end
def uptoSmall : (H : Type) → List (DataW H) → Bool := fun _ ds => decide (uptoBulkAll ds ≤ 1048576)
def OpenSpec.upto (s : _root_.Go.ChangeSpec) : _root_.Go.OpenSpec := { _root_.Go.OpenSpec.ofChange s with cond := some uptoSmall }

/-- 'cottonpadlaw09.OriginTells', WHERE WHAT IT READS IS OF BULK AT MOST 1048576: true; the input reads as it did. -/
def originTellsUptoRow : OpenClaim := { program := "ytommeljlfkmpjaadoor", sum := "85a676f4b6a82accfa608b8c05a3d4078b74f838596f84cf1683ecdc47f15d05", func := "cottonpad/cottonpadlaw09.OriginTells", spec := "originTells", unfollowed := true, recurses := true, named := ["cottonpad/origin.nowhere"], apart := false, laid := [("cottonpad/origin.nowhere", laid_cottonpad_origin_nowhere)], narrowed := true }
def OriginTellsUptoSaid : Prop := originTellsUptoRow.holds Tryd.pinned (OpenSpec.upto originTellsSpec)

/-- 'cottonpadlaw09.OriginExamples', WHERE WHAT IT READS IS OF BULK AT MOST 1048576: true; the input reads as it did. -/
def originExamplesUptoRow : OpenClaim := { program := "ytommeljlfkmpjaadoor", sum := "85a676f4b6a82accfa608b8c05a3d4078b74f838596f84cf1683ecdc47f15d05", func := "cottonpad/cottonpadlaw09.OriginExamples", spec := "originExamples", unfollowed := true, recurses := true, named := ["cottonpad/origin.nowhere"], apart := false, laid := [("cottonpad/origin.nowhere", laid_cottonpad_origin_nowhere)], narrowed := true }
def OriginExamplesUptoSaid : Prop := originExamplesUptoRow.holds Tryd.pinned (OpenSpec.upto originExamplesSpec)

end Rows
end Go.Proofs.YtommeljlfkmpjaaDoor
