/- Printed for this claim by this session's own driver over the kit's printer: the machine side of plain functions: what each returns, and that it leaves memory below its own blocks alone. -/
import Derived.Test.YtfgclmbndgakgaaDoorPXx0
namespace Go.Proofs.YtfgclmbndgakgaaDoor.PX
open Go.RowKit Go.Proofs.YtfgclmbndgakgaaDoorW.PrintWords Go.Proofs.YtfgclmbndgakgaaDoorW.PrintLast Go.Proofs.YtfgclmbndgakgaaDoor.PA Go.Proofs.YtfgclmbndgakgaaDoor.PC1 Go.Proofs.YtfgclmbndgakgaaDoor.PC2 Go.Proofs.YtfgclmbndgakgaaDoorW.PrintMore
attribute [local go_sem] max2_int min2_int max_two min_two max_three min_three max_four min_four   -- for this text's walks alone
set_option linter.unusedVariables false
set_option linter.unusedSimpArgs false

-- NOT PRINTED: function 63 (slices_IndexFunc_int_int)

-- NOT PRINTED: function 58 (slices_ContainsFunc_int_int)

-- ours: function 41 (burn_in)

-- ours: function 50 (burn_ordered)

-- ours: function 18 (burn_Check)

-- ours: function 40 (burn_open)

-- NOT PRINTED: function 45 (burn_duct_lags)

-- ours: function 46 (burn_duct_heat)

-- ours: function 47 (burn_both)

-- NOT PRINTED: function 48 (api_Span)

-- ours: function 42 (burn_duct_sum)

-- ours: function 12 (burn_Heat)

-- ours: function 14 (burn_Sum)

-- ours: function 16 (burn_First)

-- ours: function 35 (cottonpadlaw04_span)

-- ours: function 24 (cottonpadlaw04_hood)

-- ours: function 26 (cottonpadlaw04_reads)

-- ours: function 22 (cottonpadlaw04_hot)

-- ours: function 25 (cottonpadlaw04_lamp)

-- ours: function 55 (burn_lit)

-- ours: function 56 (slices_Max_int_int)

-- ours: function 30 (burn_Clean)

-- ours: function 27 (burn_Dark)

-- ours: function 28 (cottonpadlaw04_lights)

-- ours: function 23 (cottonpadlaw04_fouled)

-- ours: function 29 (burn_Smoke)

-- ours: function 53 (cottonpadlaw04_reached)

-- ours: function 21 (cottonpadlaw04_alive)

end Go.Proofs.YtfgclmbndgakgaaDoor.PX
