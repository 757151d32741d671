/- Out of the words that the kit's print lays for a seat: what this seat's texts use; the rest is left out (by this session's own wip/tools/slim.py). -/
import Derived.Test.YtfgclmbndgakgaaDoorWTab
/-! ### 56. Four, five, six operations that may come up next, in any order -/
namespace Go.Proofs.YtfgclmbndgakgaaDoorW.PrintLast
section
variable {P : Program} {ops : Array Oper} {Q : Exit → Act → World → Prop} {md : Region.Mode} {S : World → Prop} {ds : List Nat} {T : Bool × List (List Nat × List Nat)}
end
end Go.Proofs.YtfgclmbndgakgaaDoorW.PrintLast
