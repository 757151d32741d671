/-
  NARROWER THAN 'FOR EVERY INPUT', by the rows' own cells (each row's printed sentence says how): BurnWider: laid.
  DERIVED. THE GIVEN ROWS OF THIS SEAT. 1 by the template 'for every input the law returns true; each argument reads behind the call as it read before'; 0 by the template 'total and deterministic' (their statements: YtaijhbliagjeaaaDoorTotals.lean).
  GIVEN WITH THE SEED: the statements are not yours to turn. If you find one false, say at which input.
  Laid BY PROGRAM, IN A SANDBOX (cutbox-rows.mjs): the forced cells as the released guide's own fill.sh prints them over the translation e5008ce92d6e6314… (all of the seat's roots in one cut). By AI agents, Wed Nov 11 2026. No macro, syntax, notation, axiom, sorry.
-/
import Derived.Test.YtaijhbliagjeaaaDoorChecked
import GoSem.Claim
import GoSem.ClaimJoined
import GoSem.ClaimMapViews
import Derived.JoinedTies
import Derived.KernelRfl
namespace Go.Proofs.YtaijhbliagjeaaaDoor
/- THE CELL 'sum', in the pinned program and in every row, IS THE sha256 OF THE DUMP (.gsa) THAT YtaijhbliagjeaaaDoorProg.lean LOADS. Nothing in Lean hashes anything: it is a label: what it is worth is what the hold of that sum in a sandbox is worth. -/
noncomputable def Tryd.pinned : Pinned := { name := "ytaijhbliagjeaaadoor", sum := "e5008ce92d6e63146511acae46e2fc7dcd2fca6da64642ca0427fb966a480dfd", checked := Tryd.checked }
namespace Rows
def none {H : Type} : Left H := { results := [], args := [] }

/- WHAT THE LISTED PACKAGE-LEVEL VARIABLES READ AS WHEN THE CALL BEGINS. Each datum BY PROGRAM (the guide's laid-datum.mjs) off the statement by which the dump's own 'gosem.cut.vars' lays the variable. In a bare row this is a premise. The card (YtaijhbliagjeaaaDoorCards.lean) ties it to the program's text. -/
def laid_cottonpad_burn_ends {H : Type} : DataW H := .iface "func table" (.agg [.agg [.iface "func" (.lit (.string [99, 111, 116, 116, 111, 110, 112, 97, 100, 47, 98, 117, 114, 110, 46, 101, 110, 100, 115, 36, 49])), .iface "func" (.lit (.string [99, 111, 116, 116, 111, 110, 112, 97, 100, 47, 98, 117, 114, 110, 46, 101, 110, 100, 115, 36, 50]))], .agg [.iface "func" (.lit (.string [99, 111, 116, 116, 111, 110, 112, 97, 100, 47, 98, 117, 114, 110, 46, 101, 110, 100, 115, 36, 51])), .iface "func" (.lit (.string [99, 111, 116, 116, 111, 110, 112, 97, 100, 47, 98, 117, 114, 110, 46, 101, 110, 100, 115, 36, 52]))]])

/-- 'cottonpadlaw04.BurnWider': WHATEVER THE INPUT: true; the input reads as it did. -/
def burnWiderSpec : ChangeSpec := { name := "burnWider", fn := fun _ => fun
  | [d1, d2, d3, d4, d5] => { results := [.lit (.bool true)], args := [d1, d2, d3, d4, d5] }
  | _ => none }
def burnWiderRow : OpenClaim := { program := "ytaijhbliagjeaaadoor", sum := "e5008ce92d6e63146511acae46e2fc7dcd2fca6da64642ca0427fb966a480dfd", func := "cottonpad/cottonpadlaw04.BurnWider", spec := "burnWider", unfollowed := true, recurses := true, named := ["cottonpad/burn.ends"], apart := false, laid := [("cottonpad/burn.ends", laid_cottonpad_burn_ends)] }
def BurnWiderSaid : Prop := burnWiderRow.holds Tryd.pinned (OpenSpec.ofChange burnWiderSpec)

/-- ITS FALSE NEIGHBOUR: 'it returns false'. Refute it at one input. -/
def burnWiderWrong : ChangeSpec := { name := "burnWider", fn := fun _ => fun
  | [d1, d2, d3, d4, d5] => { results := [.lit (.bool false)], args := [d1, d2, d3, d4, d5] }
  | _ => none }
def BurnWiderWrongFalsely : Prop := burnWiderRow.holds Tryd.pinned (OpenSpec.ofChange burnWiderWrong)

/- THE SECOND FORM. 'bulk': how many values and letters a reading holds, each counted each time it is reached (what is shared counts as often as it is met; a slice's spare places count too). A statement '..UptoSaid' is the law's where the arguments, and the package variables that the reading takes, are together of bulk at most 1048576: NARROWER than '..Said'. Prove '..Said' where nothing that the law and all that it calls make is longer than what came in: it says more and counts as full. Else prove '..UptoSaid'. A law counts once. -/
mutual
def uptoBulk {H : Type} : DataW H → Nat
  | .lit (.string bytes) => bytes.length + 1
  | .lit _ => 1
  | .nil => 1
  | .ptr d => uptoBulk d + 1
  | .slice elems spare => uptoBulkAll elems + uptoBulkAll spare + 1
  | .agg parts => uptoBulkAll parts + 1
  | .iface _ d => uptoBulk d + 1
  | .map entries => uptoBulkEntries entries + 1
  | .held _ => 1
def uptoBulkAll {H : Type} : List (DataW H) → Nat
  | [] => 0
  | d :: r => uptoBulk d + uptoBulkAll r
def uptoBulkEntries {H : Type} : List (Lit × DataW H) → Nat
  | [] => 0
  | x :: r => uptoBulkEntry x + uptoBulkEntries r
def uptoBulkEntry {H : Type} : Lit × DataW H → Nat
  | (.string bytes, d) => bytes.length + uptoBulk d + 1
  | (_, d) => uptoBulk d + 1
 end
def uptoSmall : (H : Type) → List (DataW H) → Bool := fun _ ds => decide (uptoBulkAll ds ≤ 1048576)
def OpenSpec.upto (s : _root_.Go.ChangeSpec) : _root_.Go.OpenSpec := { _root_.Go.OpenSpec.ofChange s with cond := some uptoSmall }

/-- 'cottonpadlaw04.BurnWider', WHERE WHAT IT READS IS OF BULK AT MOST 1048576: true; the input reads as it did. -/
def burnWiderUptoRow : OpenClaim := { program := "ytaijhbliagjeaaadoor", sum := "e5008ce92d6e63146511acae46e2fc7dcd2fca6da64642ca0427fb966a480dfd", func := "cottonpad/cottonpadlaw04.BurnWider", spec := "burnWider", unfollowed := true, recurses := true, named := ["cottonpad/burn.ends"], apart := false, laid := [("cottonpad/burn.ends", laid_cottonpad_burn_ends)], narrowed := true }
def BurnWiderUptoSaid : Prop := burnWiderUptoRow.holds Tryd.pinned (OpenSpec.upto burnWiderSpec)

end Rows
end Go.Proofs.YtaijhbliagjeaaaDoor
