/- BurnExamples, the plain law: the chapter's examples, limits and numbers. -/
import Derived.Test.YtfgclmbndgakgaaDoorPureA
import Derived.Test.YtfgclmbndgakgaaDoorPXx
namespace Go.Proofs.YtfgclmbndgakgaaDoor.Pure
open Go.RowKit Go.Proofs.YtfgclmbndgakgaaDoor Go.Proofs.YtfgclmbndgakgaaDoor.PA Go.Proofs.YtfgclmbndgakgaaDoor.PR Go.Proofs.YtfgclmbndgakgaaDoor.PX Go.Proofs.YtfgclmbndgakgaaDoor.PC1 Go.Proofs.YtfgclmbndgakgaaDoor.PC2 Go.Proofs.YtfgclmbndgakgaaDoorW.PrintWords Go.Proofs.YtfgclmbndgakgaaDoorW.PrintLast Go.Proofs.YtfgclmbndgakgaaDoorW.PrintMore
set_option linter.unusedVariables false
set_option linter.unusedSimpArgs false
/-- The one plain statement of BurnExamples. -/
theorem pureExamples : ∃ k, cottonpadlaw04_BurnExamples.f k = some true := ⟨1000, by decide +kernel⟩
end Go.Proofs.YtfgclmbndgakgaaDoor.Pure
