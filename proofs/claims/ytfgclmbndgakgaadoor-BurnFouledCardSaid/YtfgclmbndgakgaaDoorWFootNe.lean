/- Out of the words that the kit's print lays for a seat: what this seat's texts use; the rest is left out (by this session's own wip/tools/slim.py). -/
import Derived.Test.YtfgclmbndgakgaaDoorWN
/-! ### 52. A row that stays read whatever happens to a block (a set of blocks) doesn't lie there -/
namespace Go.Proofs.YtfgclmbndgakgaaDoorW.PrintWords
open Go.RowKit
namespace Kd
section
variable {α : Type} {d : Kd α} {W : World} {g n : Nat} {S ok : Nat → Prop} {A : Option Addr} {ad : Addr} {xs : List α}
end
end Kd
end Go.Proofs.YtfgclmbndgakgaaDoorW.PrintWords
