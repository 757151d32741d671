/- Printed for this claim by this session's own driver over the kit's printer: the machine side of plain functions: what each returns, and that it leaves memory below its own blocks alone. -/
import Derived.Test.YtfgclmbndgakgaaDoorProg
import Derived.Below
import Derived.Deep.Draws
import Derived.Deep.AppendLies
import Derived.Maps.AppendAt
import Derived.OwnWalk
import Derived.Laws.BytesArg
import Derived.Laws.MakeOwn
import Derived.Laws.OwnMore
import Derived.Deep.OwnRows
import Derived.Tactics
import Derived.Lib.ConvBytes
import Derived.Laws.Slices
import Derived.WalkKit
import Derived.KernelRfl
import Derived.RowKit3
import Derived.Deep.LoopGhost
import Derived.Deep.QuietTactic
import Derived.BigQuiet
import Derived.WideLaws
import Derived.Deep.DeepCutAuto
import Derived.Deep.CutBlock
import Derived.Deep.RegionHeld3
import Derived.Laws.Rows
import Derived.Lib.AppendStr
import Derived.ArgAppend
import Derived.Laws.IdiomCopy
import Derived.OrdersHeld
import Derived.Laws.BitsLemmas
import Derived.RowKit
import Derived.Test.YtfgclmbndgakgaaDoorDark
import Derived.Test.YtfgclmbndgakgaaDoorFouled1
import Derived.Test.YtfgclmbndgakgaaDoorPAx2
import Derived.Test.YtfgclmbndgakgaaDoorPAx3
import Derived.Test.YtfgclmbndgakgaaDoorPAx4
import Derived.Test.YtfgclmbndgakgaaDoorPC1x
import Derived.Test.YtfgclmbndgakgaaDoorPRx1
import Derived.Test.YtfgclmbndgakgaaDoorWWords
import Derived.Test.YtfgclmbndgakgaaDoorWLast
import Derived.Test.YtfgclmbndgakgaaDoorWTab
import Derived.Test.YtfgclmbndgakgaaDoorWFour
import Derived.Test.YtfgclmbndgakgaaDoorWQPut
import Derived.Test.YtfgclmbndgakgaaDoorWApart
import Derived.Test.YtfgclmbndgakgaaDoorWArr
import Derived.Test.YtfgclmbndgakgaaDoorWZeros
import Derived.Test.YtfgclmbndgakgaaDoorWFoot
import Derived.Test.YtfgclmbndgakgaaDoorWKept
import Derived.Test.YtfgclmbndgakgaaDoorWShare
import Derived.Test.YtfgclmbndgakgaaDoorWN
import Derived.Test.YtfgclmbndgakgaaDoorWFootNe
import Derived.Test.YtfgclmbndgakgaaDoorWAt
import Derived.Test.YtfgclmbndgakgaaDoorWEqStruct
import Derived.Test.YtfgclmbndgakgaaDoorWRepsOne
import Derived.Test.YtfgclmbndgakgaaDoorWInv
import Derived.Test.YtfgclmbndgakgaaDoorWInvWords
import Derived.Test.YtfgclmbndgakgaaDoorWGuard
import Derived.Test.YtfgclmbndgakgaaDoorWNEv
import Derived.Test.YtfgclmbndgakgaaDoorWMore
namespace Go.Proofs.YtfgclmbndgakgaaDoor.PF
open Go.RowKit Go.Proofs.YtfgclmbndgakgaaDoorW.PrintWords Go.Proofs.YtfgclmbndgakgaaDoorW.PrintLast Go.Proofs.YtfgclmbndgakgaaDoor.PA Go.Proofs.YtfgclmbndgakgaaDoor.PC1 Go.Proofs.YtfgclmbndgakgaaDoor.PR Go.Proofs.YtfgclmbndgakgaaDoorW.PrintMore
attribute [local go_sem] max2_int min2_int max_two min_two max_three min_three max_four min_four   -- for this text's walks alone
set_option linter.unusedVariables false
set_option linter.unusedSimpArgs false



def errW : Option Int → Value
  | none => .nilIface
  | some c => .iface 0 (.int .i64 c)
theorem errW_none : errW none = .nilIface := rfl
theorem errW_some (c : Int) : errW (some c) = .iface 0 (.int .i64 c) := rfl

theorem info3 : (Tryd.prog.info? 3).map (fun i => (i.zero, i.size, i.bytes)) = some (some (.int .i64 0), 1, 8) := by kernel_rfl
theorem A_ {P : Prop} (h : P) : Aside0 P := ⟨h⟩
theorem bk_ {Q R : Prop} (h : R) (k : R → Q := by intro h_; (with_reducible repeat (first | refine blk_drewN ?_ _ | refine blk_drew ?_ | refine blk_alloc ?_ _)); exact h_) : Q := k h
theorem bb_ {w w1 w2 : World} {g : Nat} {o : Obj} (h : w.heap[g]? = some o) (hb : Below w1.heap.size w1 w2) (k : w.heap[g]? = some o → w1.heap[g]? = some o := by intro h_; (with_reducible repeat (first | refine blk_drewN ?_ _ | refine blk_drew ?_ | refine blk_alloc ?_ _)); exact h_) : Aside0 (w2.heap[g]? = some o) := ⟨blk_below (k h) hb⟩
theorem kr_ {Q R : Prop} (h : R) (k : R → Q := by intro h_; (with_reducible repeat (first | apply Kd.R_alloc | apply Kd.R_drewN | apply Kd.R_drew)); exact h_) : Q := k h
theorem sT_ {α : Type} (l : List α) (i : Nat) (a : α) : l.toArray.setIfInBounds i a = (l.set i a).toArray := List.setIfInBounds_toArray ..
theorem s0_ {α : Type} (x a : α) (xs : List α) : (x :: xs).set 0 a = a :: xs := rfl
theorem sS_ {α : Type} (x a : α) (xs : List α) (n : Nat) : (x :: xs).set (n + 1) a = x :: xs.set n a := rfl
theorem setCell_drewN_ (w : World) (n : Nat) (a : Addr) (v : Value) : (w.drewN n).setCell a v = (w.setCell a v).drewN n := rfl
-- the values' own types

end Go.Proofs.YtfgclmbndgakgaaDoor.PF
