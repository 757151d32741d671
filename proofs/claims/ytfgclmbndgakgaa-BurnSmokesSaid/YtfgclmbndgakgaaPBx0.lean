/- Printed for this claim by this session's own driver over the kit's printer: the machine side of plain functions: what each returns, and that it leaves memory below its own blocks alone. -/
import Derived.Test.YtfgclmbndgakgaaProg
import Derived.Below
import Derived.Deep.Draws
import Derived.Deep.AppendLies
import Derived.Maps.AppendAt
import Derived.OwnWalk
import Derived.Laws.BytesArg
import Derived.Laws.MakeOwn
import Derived.Laws.OwnMore
import Derived.Deep.OwnRows
import Derived.Tactics
import Derived.Lib.ConvBytes
import Derived.Laws.Slices
import Derived.WalkKit
import Derived.KernelRfl
import Derived.RowKit3
import Derived.Deep.LoopGhost
import Derived.Deep.QuietTactic
import Derived.BigQuiet
import Derived.WideLaws
import Derived.Deep.DeepCutAuto
import Derived.Deep.CutBlock
import Derived.Deep.RegionHeld3
import Derived.Laws.Rows
import Derived.Lib.AppendStr
import Derived.ArgAppend
import Derived.Laws.IdiomCopy
import Derived.OrdersHeld
import Derived.Laws.BitsLemmas
import Derived.RowKit
import Derived.Test.YtfgclmbndgakgaaDark
import Derived.Test.YtfgclmbndgakgaaIn
import Derived.Test.YtfgclmbndgakgaaMax
import Derived.Test.YtfgclmbndgakgaaPC1x
import Derived.Test.YtfgclmbndgakgaaWWords
import Derived.Test.YtfgclmbndgakgaaWLast
import Derived.Test.YtfgclmbndgakgaaWTab
import Derived.Test.YtfgclmbndgakgaaWFour
import Derived.Test.YtfgclmbndgakgaaWQPut
import Derived.Test.YtfgclmbndgakgaaWApart
import Derived.Test.YtfgclmbndgakgaaWArr
import Derived.Test.YtfgclmbndgakgaaWZeros
import Derived.Test.YtfgclmbndgakgaaWFoot
import Derived.Test.YtfgclmbndgakgaaWKept
import Derived.Test.YtfgclmbndgakgaaWShare
import Derived.Test.YtfgclmbndgakgaaWN
import Derived.Test.YtfgclmbndgakgaaWFootNe
import Derived.Test.YtfgclmbndgakgaaWAt
import Derived.Test.YtfgclmbndgakgaaWEqStruct
import Derived.Test.YtfgclmbndgakgaaWRepsOne
import Derived.Test.YtfgclmbndgakgaaWInv
import Derived.Test.YtfgclmbndgakgaaWInvWords
import Derived.Test.YtfgclmbndgakgaaWGuard
import Derived.Test.YtfgclmbndgakgaaWNEv
import Derived.Test.YtfgclmbndgakgaaWMore
namespace Go.Proofs.Ytfgclmbndgakgaa.PB
open Go.RowKit Go.Proofs.YtfgclmbndgakgaaW.PrintWords Go.Proofs.YtfgclmbndgakgaaW.PrintLast Go.Proofs.Ytfgclmbndgakgaa.PC1 Go.Proofs.YtfgclmbndgakgaaW.PrintMore
attribute [local go_sem] max2_int min2_int max_two min_two max_three min_three max_four min_four   -- for this text's walks alone
set_option linter.unusedVariables false
set_option linter.unusedSimpArgs false



def errW : Option Int → Value
  | none => .nilIface
  | some c => .iface 0 (.int .i64 c)
theorem errW_none : errW none = .nilIface := rfl
theorem errW_some (c : Int) : errW (some c) = .iface 0 (.int .i64 c) := rfl

theorem info3 : (Try.prog.info? 3).map (fun i => (i.zero, i.size, i.bytes)) = some (some (.int .i64 0), 1, 8) := by kernel_rfl
theorem setCell_drewN_ (w : World) (n : Nat) (a : Addr) (v : Value) : (w.drewN n).setCell a v = (w.setCell a v).drewN n := rfl
-- the values' own types

end Go.Proofs.Ytfgclmbndgakgaa.PB
