/-
  NARROWER THAN 'FOR EVERY INPUT', by the rows' own cells (each row's printed sentence says how): TrustPieces: laid · TrustExamples: laid · TrustTakes: laid · TrustOrder: laid · TrustMore: laid · TrustEnough: laid · TrustCauses: laid · TrustBalance: laid · TrustRecall: laid.
  DERIVED. THE GIVEN ROWS OF THIS SEAT. 9 by the template 'for every input the law returns true; each argument reads behind the call as it read before'; 0 by the template 'total and deterministic' (their statements: YtcmepdamemnbkaaDoorTotals.lean).
  GIVEN WITH THE SEED: the statements are not yours to turn. If you find one false, say at which input.
  Laid BY PROGRAM, IN A SANDBOX (cutbox-rows.mjs): the forced cells as the released guide's own fill.sh prints them over the translation 159e64cdec1e592f… (all of the seat's roots in one cut). By AI agents, Wed Nov 11 2026. No macro, syntax, notation, axiom, sorry.
-/
import Derived.Test.YtcmepdamemnbkaaDoorChecked
import GoSem.Claim
import GoSem.ClaimJoined
import GoSem.ClaimMapViews
import Derived.JoinedTies
import Derived.KernelRfl
namespace Go.Proofs.YtcmepdamemnbkaaDoor
/- THE CELL 'sum', in the pinned program and in every row, IS THE sha256 OF THE DUMP (.gsa) THAT YtcmepdamemnbkaaDoorProg.lean LOADS. Nothing in Lean hashes anything: it is a label: what it is worth is what the hold of that sum in a sandbox is worth. -/
noncomputable def Tryd.pinned : Pinned := { name := "ytcmepdamemnbkaadoor", sum := "159e64cdec1e592fe81a0b76e16c5564dc8d00635c51022fd019da8c5507b4ca", checked := Tryd.checked }
namespace Rows
def none {H : Type} : Left H := { results := [], args := [] }

/- WHAT THE LISTED PACKAGE-LEVEL VARIABLES READ AS WHEN THE CALL BEGINS. Each datum BY PROGRAM (the guide's laid-datum.mjs) off the statement by which the dump's own 'gosem.cut.vars' lays the variable. In a bare row this is a premise. The card (YtcmepdamemnbkaaDoorCards.lean) ties it to the program's text. -/
def laid_cottonpad_trust_adds {H : Type} : DataW H := .iface "func table" (.agg [.nil, .iface "func" (.lit (.string [99, 111, 116, 116, 111, 110, 112, 97, 100, 47, 116, 114, 117, 115, 116, 46, 97, 100, 100, 115, 36, 49])), .iface "func" (.lit (.string [99, 111, 116, 116, 111, 110, 112, 97, 100, 47, 116, 114, 117, 115, 116, 46, 97, 100, 100, 115, 36, 50])), .iface "func" (.lit (.string [99, 111, 116, 116, 111, 110, 112, 97, 100, 47, 116, 114, 117, 115, 116, 46, 97, 100, 100, 115, 36, 51])), .iface "func" (.lit (.string [99, 111, 116, 116, 111, 110, 112, 97, 100, 47, 116, 114, 117, 115, 116, 46, 97, 100, 100, 115, 36, 52])), .iface "func" (.lit (.string [99, 111, 116, 116, 111, 110, 112, 97, 100, 47, 116, 114, 117, 115, 116, 46, 97, 100, 100, 115, 36, 53]))])

/-- 'cottonpadlaw08.TrustPieces': WHATEVER THE INPUT: true; the input reads as it did. -/
def trustPiecesSpec : ChangeSpec := { name := "trustPieces", fn := fun _ => fun
  | [d1, d2, d3, d4, d5] => { results := [.lit (.bool true)], args := [d1, d2, d3, d4, d5] }
  | _ => none }
def trustPiecesRow : OpenClaim := { program := "ytcmepdamemnbkaadoor", sum := "159e64cdec1e592fe81a0b76e16c5564dc8d00635c51022fd019da8c5507b4ca", func := "cottonpad/cottonpadlaw08.TrustPieces", spec := "trustPieces", unfollowed := true, recurses := true, named := ["cottonpad/trust.adds"], apart := false, laid := [("cottonpad/trust.adds", laid_cottonpad_trust_adds)] }
def TrustPiecesSaid : Prop := trustPiecesRow.holds Tryd.pinned (OpenSpec.ofChange trustPiecesSpec)

/-- ITS FALSE NEIGHBOUR: 'it returns false'. Refute it at one input. -/
def trustPiecesWrong : ChangeSpec := { name := "trustPieces", fn := fun _ => fun
  | [d1, d2, d3, d4, d5] => { results := [.lit (.bool false)], args := [d1, d2, d3, d4, d5] }
  | _ => none }
def TrustPiecesWrongFalsely : Prop := trustPiecesRow.holds Tryd.pinned (OpenSpec.ofChange trustPiecesWrong)

/-- 'cottonpadlaw08.TrustExamples': WHATEVER THE INPUT: true; the input reads as it did. -/
def trustExamplesSpec : ChangeSpec := { name := "trustExamples", fn := fun _ => fun
  | [] => { results := [.lit (.bool true)], args := [] }
  | _ => none }
def trustExamplesRow : OpenClaim := { program := "ytcmepdamemnbkaadoor", sum := "159e64cdec1e592fe81a0b76e16c5564dc8d00635c51022fd019da8c5507b4ca", func := "cottonpad/cottonpadlaw08.TrustExamples", spec := "trustExamples", inPlace := ["maps.clone"], unfollowed := true, recurses := true, named := ["cottonpad/trust.adds"], apart := false, laid := [("cottonpad/trust.adds", laid_cottonpad_trust_adds)] }
def TrustExamplesSaid : Prop := trustExamplesRow.holds Tryd.pinned (OpenSpec.ofChange trustExamplesSpec)

/-- ITS FALSE NEIGHBOUR: 'it returns false'. Refute it at one input. -/
def trustExamplesWrong : ChangeSpec := { name := "trustExamples", fn := fun _ => fun
  | [] => { results := [.lit (.bool false)], args := [] }
  | _ => none }
def TrustExamplesWrongFalsely : Prop := trustExamplesRow.holds Tryd.pinned (OpenSpec.ofChange trustExamplesWrong)

/-- 'cottonpadlaw08.TrustTakes': WHATEVER THE INPUT: true; the input reads as it did. -/
def trustTakesSpec : ChangeSpec := { name := "trustTakes", fn := fun _ => fun
  | [d1, d2, d3, d4] => { results := [.lit (.bool true)], args := [d1, d2, d3, d4] }
  | _ => none }
def trustTakesRow : OpenClaim := { program := "ytcmepdamemnbkaadoor", sum := "159e64cdec1e592fe81a0b76e16c5564dc8d00635c51022fd019da8c5507b4ca", func := "cottonpad/cottonpadlaw08.TrustTakes", spec := "trustTakes", inPlace := ["maps.clone"], unfollowed := true, recurses := true, named := ["cottonpad/trust.adds"], apart := false, laid := [("cottonpad/trust.adds", laid_cottonpad_trust_adds)] }
def TrustTakesSaid : Prop := trustTakesRow.holds Tryd.pinned (OpenSpec.ofChange trustTakesSpec)

/-- ITS FALSE NEIGHBOUR: 'it returns false'. Refute it at one input. -/
def trustTakesWrong : ChangeSpec := { name := "trustTakes", fn := fun _ => fun
  | [d1, d2, d3, d4] => { results := [.lit (.bool false)], args := [d1, d2, d3, d4] }
  | _ => none }
def TrustTakesWrongFalsely : Prop := trustTakesRow.holds Tryd.pinned (OpenSpec.ofChange trustTakesWrong)

/-- 'cottonpadlaw08.TrustOrder': WHATEVER THE INPUT: true; the input reads as it did. -/
def trustOrderSpec : ChangeSpec := { name := "trustOrder", fn := fun _ => fun
  | [d1, d2, d3, d4, d5] => { results := [.lit (.bool true)], args := [d1, d2, d3, d4, d5] }
  | _ => none }
def trustOrderRow : OpenClaim := { program := "ytcmepdamemnbkaadoor", sum := "159e64cdec1e592fe81a0b76e16c5564dc8d00635c51022fd019da8c5507b4ca", func := "cottonpad/cottonpadlaw08.TrustOrder", spec := "trustOrder", inPlace := ["maps.clone"], unfollowed := true, recurses := true, named := ["cottonpad/trust.adds"], apart := false, laid := [("cottonpad/trust.adds", laid_cottonpad_trust_adds)] }
def TrustOrderSaid : Prop := trustOrderRow.holds Tryd.pinned (OpenSpec.ofChange trustOrderSpec)

/-- ITS FALSE NEIGHBOUR: 'it returns false'. Refute it at one input. -/
def trustOrderWrong : ChangeSpec := { name := "trustOrder", fn := fun _ => fun
  | [d1, d2, d3, d4, d5] => { results := [.lit (.bool false)], args := [d1, d2, d3, d4, d5] }
  | _ => none }
def TrustOrderWrongFalsely : Prop := trustOrderRow.holds Tryd.pinned (OpenSpec.ofChange trustOrderWrong)

/-- 'cottonpadlaw08.TrustMore': WHATEVER THE INPUT: true; the input reads as it did. -/
def trustMoreSpec : ChangeSpec := { name := "trustMore", fn := fun _ => fun
  | [d1, d2, d3, d4] => { results := [.lit (.bool true)], args := [d1, d2, d3, d4] }
  | _ => none }
def trustMoreRow : OpenClaim := { program := "ytcmepdamemnbkaadoor", sum := "159e64cdec1e592fe81a0b76e16c5564dc8d00635c51022fd019da8c5507b4ca", func := "cottonpad/cottonpadlaw08.TrustMore", spec := "trustMore", inPlace := ["maps.clone"], unfollowed := true, recurses := true, named := ["cottonpad/trust.adds"], apart := false, laid := [("cottonpad/trust.adds", laid_cottonpad_trust_adds)] }
def TrustMoreSaid : Prop := trustMoreRow.holds Tryd.pinned (OpenSpec.ofChange trustMoreSpec)

/-- ITS FALSE NEIGHBOUR: 'it returns false'. Refute it at one input. -/
def trustMoreWrong : ChangeSpec := { name := "trustMore", fn := fun _ => fun
  | [d1, d2, d3, d4] => { results := [.lit (.bool false)], args := [d1, d2, d3, d4] }
  | _ => none }
def TrustMoreWrongFalsely : Prop := trustMoreRow.holds Tryd.pinned (OpenSpec.ofChange trustMoreWrong)

/-- 'cottonpadlaw08.TrustEnough': WHATEVER THE INPUT: true; the input reads as it did. -/
def trustEnoughSpec : ChangeSpec := { name := "trustEnough", fn := fun _ => fun
  | [d1, d2, d3, d4, d5] => { results := [.lit (.bool true)], args := [d1, d2, d3, d4, d5] }
  | _ => none }
def trustEnoughRow : OpenClaim := { program := "ytcmepdamemnbkaadoor", sum := "159e64cdec1e592fe81a0b76e16c5564dc8d00635c51022fd019da8c5507b4ca", func := "cottonpad/cottonpadlaw08.TrustEnough", spec := "trustEnough", inPlace := ["maps.clone"], unfollowed := true, recurses := true, named := ["cottonpad/trust.adds"], apart := false, laid := [("cottonpad/trust.adds", laid_cottonpad_trust_adds)] }
def TrustEnoughSaid : Prop := trustEnoughRow.holds Tryd.pinned (OpenSpec.ofChange trustEnoughSpec)

/-- ITS FALSE NEIGHBOUR: 'it returns false'. Refute it at one input. -/
def trustEnoughWrong : ChangeSpec := { name := "trustEnough", fn := fun _ => fun
  | [d1, d2, d3, d4, d5] => { results := [.lit (.bool false)], args := [d1, d2, d3, d4, d5] }
  | _ => none }
def TrustEnoughWrongFalsely : Prop := trustEnoughRow.holds Tryd.pinned (OpenSpec.ofChange trustEnoughWrong)

/-- 'cottonpadlaw08.TrustCauses': WHATEVER THE INPUT: true; the input reads as it did. -/
def trustCausesSpec : ChangeSpec := { name := "trustCauses", fn := fun _ => fun
  | [d1, d2, d3, d4, d5] => { results := [.lit (.bool true)], args := [d1, d2, d3, d4, d5] }
  | _ => none }
def trustCausesRow : OpenClaim := { program := "ytcmepdamemnbkaadoor", sum := "159e64cdec1e592fe81a0b76e16c5564dc8d00635c51022fd019da8c5507b4ca", func := "cottonpad/cottonpadlaw08.TrustCauses", spec := "trustCauses", inPlace := ["maps.clone"], unfollowed := true, recurses := true, named := ["cottonpad/trust.adds"], apart := false, laid := [("cottonpad/trust.adds", laid_cottonpad_trust_adds)] }
def TrustCausesSaid : Prop := trustCausesRow.holds Tryd.pinned (OpenSpec.ofChange trustCausesSpec)

/-- ITS FALSE NEIGHBOUR: 'it returns false'. Refute it at one input. -/
def trustCausesWrong : ChangeSpec := { name := "trustCauses", fn := fun _ => fun
  | [d1, d2, d3, d4, d5] => { results := [.lit (.bool false)], args := [d1, d2, d3, d4, d5] }
  | _ => none }
def TrustCausesWrongFalsely : Prop := trustCausesRow.holds Tryd.pinned (OpenSpec.ofChange trustCausesWrong)

/-- 'cottonpadlaw08.TrustBalance': WHATEVER THE INPUT: true; the input reads as it did. -/
def trustBalanceSpec : ChangeSpec := { name := "trustBalance", fn := fun _ => fun
  | [d1, d2, d3] => { results := [.lit (.bool true)], args := [d1, d2, d3] }
  | _ => none }
def trustBalanceRow : OpenClaim := { program := "ytcmepdamemnbkaadoor", sum := "159e64cdec1e592fe81a0b76e16c5564dc8d00635c51022fd019da8c5507b4ca", func := "cottonpad/cottonpadlaw08.TrustBalance", spec := "trustBalance", inPlace := ["maps.clone"], unfollowed := true, recurses := true, named := ["cottonpad/trust.adds"], apart := false, laid := [("cottonpad/trust.adds", laid_cottonpad_trust_adds)] }
def TrustBalanceSaid : Prop := trustBalanceRow.holds Tryd.pinned (OpenSpec.ofChange trustBalanceSpec)

/-- ITS FALSE NEIGHBOUR: 'it returns false'. Refute it at one input. -/
def trustBalanceWrong : ChangeSpec := { name := "trustBalance", fn := fun _ => fun
  | [d1, d2, d3] => { results := [.lit (.bool false)], args := [d1, d2, d3] }
  | _ => none }
def TrustBalanceWrongFalsely : Prop := trustBalanceRow.holds Tryd.pinned (OpenSpec.ofChange trustBalanceWrong)

/-- 'cottonpadlaw08.TrustRecall': WHATEVER THE INPUT: true; the input reads as it did. -/
def trustRecallSpec : ChangeSpec := { name := "trustRecall", fn := fun _ => fun
  | [d1, d2, d3, d4, d5] => { results := [.lit (.bool true)], args := [d1, d2, d3, d4, d5] }
  | _ => none }
def trustRecallRow : OpenClaim := { program := "ytcmepdamemnbkaadoor", sum := "159e64cdec1e592fe81a0b76e16c5564dc8d00635c51022fd019da8c5507b4ca", func := "cottonpad/cottonpadlaw08.TrustRecall", spec := "trustRecall", inPlace := ["maps.clone"], unfollowed := true, recurses := true, named := ["cottonpad/trust.adds"], apart := false, laid := [("cottonpad/trust.adds", laid_cottonpad_trust_adds)] }
def TrustRecallSaid : Prop := trustRecallRow.holds Tryd.pinned (OpenSpec.ofChange trustRecallSpec)

/-- ITS FALSE NEIGHBOUR: 'it returns false'. Refute it at one input. -/
def trustRecallWrong : ChangeSpec := { name := "trustRecall", fn := fun _ => fun
  | [d1, d2, d3, d4, d5] => { results := [.lit (.bool false)], args := [d1, d2, d3, d4, d5] }
  | _ => none }
def TrustRecallWrongFalsely : Prop := trustRecallRow.holds Tryd.pinned (OpenSpec.ofChange trustRecallWrong)

/- THE SECOND FORM. 'bulk': how many values and letters a reading holds, each counted each time it is reached (what is shared counts as often as it is met; a slice's spare places count too). A statement '..UptoSaid' is the law's where the arguments, and the package variables that the reading takes, are together of bulk at most 1048576: NARROWER than '..Said'. Prove '..Said' where nothing that the law and all that it calls make is longer than what came in: it says more and counts as full. Else prove '..UptoSaid'. A law counts once. -/
mutual
def uptoBulk {H : Type} : DataW H → Nat
  | .lit (.string bytes) => bytes.length + 1
  | .lit _ => 1
  | .nil => 1
  | .ptr d => uptoBulk d + 1
  | .slice elems spare => uptoBulkAll elems + uptoBulkAll spare + 1
  | .agg parts => uptoBulkAll parts + 1
  | .iface _ d => uptoBulk d + 1
  | .map entries => uptoBulkEntries entries + 1
  | .held _ => 1
def uptoBulkAll {H : Type} : List (DataW H) → Nat
  | [] => 0
  | d :: r => uptoBulk d + uptoBulkAll r
def uptoBulkEntries {H : Type} : List (Lit × DataW H) → Nat
  | [] => 0
  | x :: r => uptoBulkEntry x + uptoBulkEntries r
def uptoBulkEntry {H : Type} : Lit × DataW H → Nat
  | (.string bytes, d) => bytes.length + uptoBulk d + 1
  | (_, d) => uptoBulk d + 1
 end
def uptoSmall : (H : Type) → List (DataW H) → Bool := fun _ ds => decide (uptoBulkAll ds ≤ 1048576)
def OpenSpec.upto (s : _root_.Go.ChangeSpec) : _root_.Go.OpenSpec := { _root_.Go.OpenSpec.ofChange s with cond := some uptoSmall }

/-- 'cottonpadlaw08.TrustPieces', WHERE WHAT IT READS IS OF BULK AT MOST 1048576: true; the input reads as it did. -/
def trustPiecesUptoRow : OpenClaim := { program := "ytcmepdamemnbkaadoor", sum := "159e64cdec1e592fe81a0b76e16c5564dc8d00635c51022fd019da8c5507b4ca", func := "cottonpad/cottonpadlaw08.TrustPieces", spec := "trustPieces", unfollowed := true, recurses := true, named := ["cottonpad/trust.adds"], apart := false, laid := [("cottonpad/trust.adds", laid_cottonpad_trust_adds)], narrowed := true }
def TrustPiecesUptoSaid : Prop := trustPiecesUptoRow.holds Tryd.pinned (OpenSpec.upto trustPiecesSpec)

/-- 'cottonpadlaw08.TrustExamples', WHERE WHAT IT READS IS OF BULK AT MOST 1048576: true; the input reads as it did. -/
def trustExamplesUptoRow : OpenClaim := { program := "ytcmepdamemnbkaadoor", sum := "159e64cdec1e592fe81a0b76e16c5564dc8d00635c51022fd019da8c5507b4ca", func := "cottonpad/cottonpadlaw08.TrustExamples", spec := "trustExamples", inPlace := ["maps.clone"], unfollowed := true, recurses := true, named := ["cottonpad/trust.adds"], apart := false, laid := [("cottonpad/trust.adds", laid_cottonpad_trust_adds)], narrowed := true }
def TrustExamplesUptoSaid : Prop := trustExamplesUptoRow.holds Tryd.pinned (OpenSpec.upto trustExamplesSpec)

/-- 'cottonpadlaw08.TrustTakes', WHERE WHAT IT READS IS OF BULK AT MOST 1048576: true; the input reads as it did. -/
def trustTakesUptoRow : OpenClaim := { program := "ytcmepdamemnbkaadoor", sum := "159e64cdec1e592fe81a0b76e16c5564dc8d00635c51022fd019da8c5507b4ca", func := "cottonpad/cottonpadlaw08.TrustTakes", spec := "trustTakes", inPlace := ["maps.clone"], unfollowed := true, recurses := true, named := ["cottonpad/trust.adds"], apart := false, laid := [("cottonpad/trust.adds", laid_cottonpad_trust_adds)], narrowed := true }
def TrustTakesUptoSaid : Prop := trustTakesUptoRow.holds Tryd.pinned (OpenSpec.upto trustTakesSpec)

/-- 'cottonpadlaw08.TrustOrder', WHERE WHAT IT READS IS OF BULK AT MOST 1048576: true; the input reads as it did. -/
def trustOrderUptoRow : OpenClaim := { program := "ytcmepdamemnbkaadoor", sum := "159e64cdec1e592fe81a0b76e16c5564dc8d00635c51022fd019da8c5507b4ca", func := "cottonpad/cottonpadlaw08.TrustOrder", spec := "trustOrder", inPlace := ["maps.clone"], unfollowed := true, recurses := true, named := ["cottonpad/trust.adds"], apart := false, laid := [("cottonpad/trust.adds", laid_cottonpad_trust_adds)], narrowed := true }
def TrustOrderUptoSaid : Prop := trustOrderUptoRow.holds Tryd.pinned (OpenSpec.upto trustOrderSpec)

/-- 'cottonpadlaw08.TrustMore', WHERE WHAT IT READS IS OF BULK AT MOST 1048576: true; the input reads as it did. -/
def trustMoreUptoRow : OpenClaim := { program := "ytcmepdamemnbkaadoor", sum := "159e64cdec1e592fe81a0b76e16c5564dc8d00635c51022fd019da8c5507b4ca", func := "cottonpad/cottonpadlaw08.TrustMore", spec := "trustMore", inPlace := ["maps.clone"], unfollowed := true, recurses := true, named := ["cottonpad/trust.adds"], apart := false, laid := [("cottonpad/trust.adds", laid_cottonpad_trust_adds)], narrowed := true }
def TrustMoreUptoSaid : Prop := trustMoreUptoRow.holds Tryd.pinned (OpenSpec.upto trustMoreSpec)

/-- 'cottonpadlaw08.TrustEnough', WHERE WHAT IT READS IS OF BULK AT MOST 1048576: true; the input reads as it did. -/
def trustEnoughUptoRow : OpenClaim := { program := "ytcmepdamemnbkaadoor", sum := "159e64cdec1e592fe81a0b76e16c5564dc8d00635c51022fd019da8c5507b4ca", func := "cottonpad/cottonpadlaw08.TrustEnough", spec := "trustEnough", inPlace := ["maps.clone"], unfollowed := true, recurses := true, named := ["cottonpad/trust.adds"], apart := false, laid := [("cottonpad/trust.adds", laid_cottonpad_trust_adds)], narrowed := true }
def TrustEnoughUptoSaid : Prop := trustEnoughUptoRow.holds Tryd.pinned (OpenSpec.upto trustEnoughSpec)

/-- 'cottonpadlaw08.TrustCauses', WHERE WHAT IT READS IS OF BULK AT MOST 1048576: true; the input reads as it did. -/
def trustCausesUptoRow : OpenClaim := { program := "ytcmepdamemnbkaadoor", sum := "159e64cdec1e592fe81a0b76e16c5564dc8d00635c51022fd019da8c5507b4ca", func := "cottonpad/cottonpadlaw08.TrustCauses", spec := "trustCauses", inPlace := ["maps.clone"], unfollowed := true, recurses := true, named := ["cottonpad/trust.adds"], apart := false, laid := [("cottonpad/trust.adds", laid_cottonpad_trust_adds)], narrowed := true }
def TrustCausesUptoSaid : Prop := trustCausesUptoRow.holds Tryd.pinned (OpenSpec.upto trustCausesSpec)

/-- 'cottonpadlaw08.TrustBalance', WHERE WHAT IT READS IS OF BULK AT MOST 1048576: true; the input reads as it did. -/
def trustBalanceUptoRow : OpenClaim := { program := "ytcmepdamemnbkaadoor", sum := "159e64cdec1e592fe81a0b76e16c5564dc8d00635c51022fd019da8c5507b4ca", func := "cottonpad/cottonpadlaw08.TrustBalance", spec := "trustBalance", inPlace := ["maps.clone"], unfollowed := true, recurses := true, named := ["cottonpad/trust.adds"], apart := false, laid := [("cottonpad/trust.adds", laid_cottonpad_trust_adds)], narrowed := true }
def TrustBalanceUptoSaid : Prop := trustBalanceUptoRow.holds Tryd.pinned (OpenSpec.upto trustBalanceSpec)

/-- 'cottonpadlaw08.TrustRecall', WHERE WHAT IT READS IS OF BULK AT MOST 1048576: true; the input reads as it did. -/
def trustRecallUptoRow : OpenClaim := { program := "ytcmepdamemnbkaadoor", sum := "159e64cdec1e592fe81a0b76e16c5564dc8d00635c51022fd019da8c5507b4ca", func := "cottonpad/cottonpadlaw08.TrustRecall", spec := "trustRecall", inPlace := ["maps.clone"], unfollowed := true, recurses := true, named := ["cottonpad/trust.adds"], apart := false, laid := [("cottonpad/trust.adds", laid_cottonpad_trust_adds)], narrowed := true }
def TrustRecallUptoSaid : Prop := trustRecallUptoRow.holds Tryd.pinned (OpenSpec.upto trustRecallSpec)

end Rows
end Go.Proofs.YtcmepdamemnbkaaDoor
