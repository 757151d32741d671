/- Printed for this claim by this session's own driver over the kit's printer: the machine side of plain functions: what each returns, and that it leaves memory below its own blocks alone. -/
import Derived.Test.YtfgclmbndgakgaaDoorPEx0
import Derived.Test.YtfgclmbndgakgaaDoorPEx1
import Derived.Test.YtfgclmbndgakgaaDoorPEx2
namespace Go.Proofs.YtfgclmbndgakgaaDoor.PE
open Go.RowKit Go.Proofs.YtfgclmbndgakgaaDoorW.PrintWords Go.Proofs.YtfgclmbndgakgaaDoorW.PrintLast Go.Proofs.YtfgclmbndgakgaaDoor.PA Go.Proofs.YtfgclmbndgakgaaDoor.PR Go.Proofs.YtfgclmbndgakgaaDoorW.PrintMore
attribute [local go_sem] max2_int min2_int max_two min_two max_three min_three max_four min_four   -- for this text's walks alone
set_option linter.unusedVariables false
set_option linter.unusedSimpArgs false

attribute [local go_sem high] eqA23
/-! ### cottonpadlaw04_BurnEnds: function 6 -/
mutual
def cottonpadlaw04_BurnEnds.j0 : Nat → List Int → Int → Int → Int → Bool → Bool → Int → Int → Int → Int → Int → Int → Int → Int → Int → Option (Bool)
 | 0, _, _, _, _, _, _, _, _, _, _, _, _, _, _, _ => none
 | k + 1, x1, x2, x3, x4, x11, x41, x112000, x112001, x112002, x112003, x112004, x112005, x112006, x112007, x112008 => if x41 = true then (some x11) else ((cottonpadref04_Seconds.f x112000 x112001 x112002 x112003 x112004 x112005 x112006 x112007 x112008 x1).bind fun t114 => (if (wrap64 (t114 + 1)) = 0 then (none) else ((burn_Sum.f k x112000 x112001 x112002 x112003 x112004 x112005 x112006 x112007 x112008 x1 (mn (Int.tmod (wrap64 (x2)) (wrap64 (t114 + 1))) (Int.tmod (wrap64 (x3)) (wrap64 (t114 + 1)))) (mx (Int.tmod (wrap64 (x2)) (wrap64 (t114 + 1))) (Int.tmod (wrap64 (x3)) (wrap64 (t114 + 1))))).bind fun bt115 => (if bt115.2.2 = 0 then ((burn_First.f k x112000 x112001 x112002 x112003 x112004 x112005 x112006 x112007 x112008 x1 (mx x4 1)).bind fun bt119 => (if bt119.2.2.2 = 0 then (cottonpadlaw04_BurnEnds.l0 k x1 (mx x4 1) x11 t114 (mn (Int.tmod (wrap64 (x2)) (wrap64 (t114 + 1))) (Int.tmod (wrap64 (x3)) (wrap64 (t114 + 1)))) (mx (Int.tmod (wrap64 (x2)) (wrap64 (t114 + 1))) (Int.tmod (wrap64 (x3)) (wrap64 (t114 + 1)))) bt119.2.2.1 false false (bt119.2.2.1 == 0) (bt119.2.2.1 == 0) true x112006 x112000 x112001 x112002 x112003 x112004 x112005 x112006 x112007 x112008 bt115.1 bt115.2.1 bt119.1 bt119.2.1) else (none))) else (none)))))
def cottonpadlaw04_BurnEnds.l0 : Nat → List Int → Int → Bool → Int → Int → Int → Int → Bool → Bool → Bool → Bool → Bool → Int → Int → Int → Int → Int → Int → Int → Int → Int → Int → Int → Int → Int → Int → Option (Bool)
 | 0, _, _, _, _, _, _, _, _, _, _, _, _, _, _, _, _, _, _, _, _, _, _, _, _, _, _ => none
 | k + 1, x1, x4, x11, x12, x13, x14, x18, x20, x21, x22, x23, x24, x25, x112000, x112001, x112002, x112003, x112004, x112005, x112006, x112007, x112008, x119000, x119001, x124000, x124001 => if x25 ≤ x112007 then ((cottonpadlaw04_ends.f k x112000 x112001 x112002 x112003 x112004 x112005 x112006 x112007 x112008 x1 x25 false).bind fun t124 => ((cottonpadlaw04_ends.f k x112000 x112001 x112002 x112003 x112004 x112005 x112006 x112007 x112008 x1 x25 true).bind fun t127 => (cottonpadlaw04_BurnEnds.l1 k x1 x4 x11 x12 x13 x14 x18 x20 x21 x22 x23 x24 x25 t124 t127 0 0 x13 x112000 x112001 x112002 x112003 x112004 x112005 x112006 x112007 x112008 x119000 x119001 x124000 x124001))) else (if x11 = true then (if x20 = true then (if x21 = true then (if x22 = true then (if x23 = true then (if ((x18 == 2) == x24) = true then (if x18 = 0 then (some (x124000 == 0 && (x124001 == 0))) else (some true)) else (none)) else (none)) else (none)) else (none)) else (none)) else (none))
def cottonpadlaw04_BurnEnds.l1 : Nat → List Int → Int → Bool → Int → Int → Int → Int → Bool → Bool → Bool → Bool → Bool → Int → List Int → List Int → Int → Int → Int → Int → Int → Int → Int → Int → Int → Int → Int → Int → Int → Int → Int → Int → Option (Bool)
 | 0, _, _, _, _, _, _, _, _, _, _, _, _, _, _, _, _, _, _, _, _, _, _, _, _, _, _, _, _, _, _, _ => none
 | k + 1, x1, x4, x11, x12, x13, x14, x18, x20, x21, x22, x23, x24, x25, x26, x27, x28, x29, x30, x112000, x112001, x112002, x112003, x112004, x112005, x112006, x112007, x112008, x119000, x119001, x124000, x124001 => if x30 < x14 then (if 0 ≤ x30 then (if x30 < (x26.length : Int) then (if x30 < (x27.length : Int) then (cottonpadlaw04_BurnEnds.l1 k x1 x4 x11 x12 x13 x14 x18 x20 x21 x22 x23 x24 x25 x26 x27 (wrap64 (x28 + (rd x26 x30))) (wrap64 (x29 + (rd x27 x30))) (wrap64 (x30 + 1)) x112000 x112001 x112002 x112003 x112004 x112005 x112006 x112007 x112008 x119000 x119001 x124000 x124001) else (none)) else (none)) else (none)) else (if x20 = true then (if x21 = true then (cottonpadlaw04_BurnEnds.j3 k x1 x4 x11 x12 x13 x14 x18 true true x22 x23 x24 x25 x26 x27 x28 x29 x112000 x112001 x112002 x112003 x112004 x112005 x112006 x112007 x112008 x119000 x119001 x124000 x124001) else (cottonpadlaw04_BurnEnds.j3 k x1 x4 x11 x12 x13 x14 x18 true (x29 == x119001) x22 x23 x24 x25 x26 x27 x28 x29 x112000 x112001 x112002 x112003 x112004 x112005 x112006 x112007 x112008 x119000 x119001 x124000 x124001)) else (if x21 = true then (cottonpadlaw04_BurnEnds.j3 k x1 x4 x11 x12 x13 x14 x18 (x28 == x119000) true x22 x23 x24 x25 x26 x27 x28 x29 x112000 x112001 x112002 x112003 x112004 x112005 x112006 x112007 x112008 x119000 x119001 x124000 x124001) else (cottonpadlaw04_BurnEnds.j3 k x1 x4 x11 x12 x13 x14 x18 (x28 == x119000) (x29 == x119001) x22 x23 x24 x25 x26 x27 x28 x29 x112000 x112001 x112002 x112003 x112004 x112005 x112006 x112007 x112008 x119000 x119001 x124000 x124001)))
def cottonpadlaw04_BurnEnds.j3 : Nat → List Int → Int → Bool → Int → Int → Int → Int → Bool → Bool → Bool → Bool → Bool → Int → List Int → List Int → Int → Int → Int → Int → Int → Int → Int → Int → Int → Int → Int → Int → Int → Int → Int → Option (Bool)
 | 0, _, _, _, _, _, _, _, _, _, _, _, _, _, _, _, _, _, _, _, _, _, _, _, _, _, _, _, _, _, _ => none
 | k + 1, x1, x4, x11, x12, x13, x14, x18, x20, x21, x22, x23, x24, x25, x26, x27, x28, x29, x112000, x112001, x112002, x112003, x112004, x112005, x112006, x112007, x112008, x119000, x119001, x124000, x124001 => if x28 < x119000 then (cottonpadlaw04_BurnEnds.j4 k x1 x4 x11 x12 x13 x14 x18 x20 x21 x22 x23 x24 x25 x26 x27 true x112000 x112001 x112002 x112003 x112004 x112005 x112006 x112007 x112008 x119000 x119001 x124000 x124001) else (cottonpadlaw04_BurnEnds.j4 k x1 x4 x11 x12 x13 x14 x18 x20 x21 x22 x23 x24 x25 x26 x27 (decide (x29 > x119001)) x112000 x112001 x112002 x112003 x112004 x112005 x112006 x112007 x112008 x119000 x119001 x124000 x124001)
def cottonpadlaw04_BurnEnds.j4 : Nat → List Int → Int → Bool → Int → Int → Int → Int → Bool → Bool → Bool → Bool → Bool → Int → List Int → List Int → Bool → Int → Int → Int → Int → Int → Int → Int → Int → Int → Int → Int → Int → Int → Option (Bool)
 | 0, _, _, _, _, _, _, _, _, _, _, _, _, _, _, _, _, _, _, _, _, _, _, _, _, _, _, _, _, _ => none
 | k + 1, x1, x4, x11, x12, x13, x14, x18, x20, x21, x22, x23, x24, x25, x26, x27, x147, x112000, x112001, x112002, x112003, x112004, x112005, x112006, x112007, x112008, x119000, x119001, x124000, x124001 => if x147 = true then (none) else (cottonpadlaw04_BurnEnds.l2 k x1 x4 x11 x12 x13 x14 x18 x20 x21 x22 x23 x24 x25 x26 x27 false x12 0 x112000 x112001 x112002 x112003 x112004 x112005 x112006 x112007 x112008 x119000 x119001 x124000 x124001)
def cottonpadlaw04_BurnEnds.l2 : Nat → List Int → Int → Bool → Int → Int → Int → Int → Bool → Bool → Bool → Bool → Bool → Int → List Int → List Int → Bool → Int → Int → Int → Int → Int → Int → Int → Int → Int → Int → Int → Int → Int → Int → Int → Option (Bool)
 | 0, _, _, _, _, _, _, _, _, _, _, _, _, _, _, _, _, _, _, _, _, _, _, _, _, _, _, _, _, _, _, _ => none
 | k + 1, x1, x4, x11, x12, x13, x14, x18, x20, x21, x22, x23, x24, x25, x26, x27, x31, x148, x149, x112000, x112001, x112002, x112003, x112004, x112005, x112006, x112007, x112008, x119000, x119001, x124000, x124001 => if x149 < x148 then (if 0 ≤ x149 then (if x149 < (x27.length : Int) then (if (rd x27 x149) ≥ x4 then (cottonpadlaw04_BurnEnds.j6 k x1 x4 x11 x12 x13 x14 x18 x20 x21 x22 x23 x24 x25 x26 x27 x31 x149 x148 x149 (!x31) x112000 x112001 x112002 x112003 x112004 x112005 x112006 x112007 x112008 x119000 x119001 x124000 x124001) else (cottonpadlaw04_BurnEnds.j6 k x1 x4 x11 x12 x13 x14 x18 x20 x21 x22 x23 x24 x25 x26 x27 x31 x149 x148 x149 false x112000 x112001 x112002 x112003 x112004 x112005 x112006 x112007 x112008 x119000 x119001 x124000 x124001)) else (none)) else (none)) else (if x24 = true then (cottonpadlaw04_BurnEnds.l0 k x1 x4 x11 x12 x13 x14 x18 x20 x21 x22 x23 x31 (wrap64 (x25 + 1)) x112000 x112001 x112002 x112003 x112004 x112005 x112006 x112007 x112008 x119000 x119001 x124000 x124001) else (cottonpadlaw04_BurnEnds.l0 k x1 x4 x11 x12 x13 x14 x18 x20 x21 x22 x23 false (wrap64 (x25 + 1)) x112000 x112001 x112002 x112003 x112004 x112005 x112006 x112007 x112008 x119000 x119001 x124000 x124001))
def cottonpadlaw04_BurnEnds.j6 : Nat → List Int → Int → Bool → Int → Int → Int → Int → Bool → Bool → Bool → Bool → Bool → Int → List Int → List Int → Bool → Int → Int → Int → Bool → Int → Int → Int → Int → Int → Int → Int → Int → Int → Int → Int → Int → Int → Option (Bool)
 | 0, _, _, _, _, _, _, _, _, _, _, _, _, _, _, _, _, _, _, _, _, _, _, _, _, _, _, _, _, _, _, _, _, _ => none
 | k + 1, x1, x4, x11, x12, x13, x14, x18, x20, x21, x22, x23, x24, x25, x26, x27, x31, x32, x148, x149, x161, x112000, x112001, x112002, x112003, x112004, x112005, x112006, x112007, x112008, x119000, x119001, x124000, x124001 => if x161 = true then (if x22 = true then (if x23 = true then (if x18 = 0 then (none) else (if x31 = true then (cottonpadlaw04_BurnEnds.l2 k x1 x4 x11 x12 x13 x14 x18 x20 x21 true true x24 x25 x26 x27 true x148 (wrap64 (x149 + 1)) x112000 x112001 x112002 x112003 x112004 x112005 x112006 x112007 x112008 x119000 x119001 x124000 x124001) else (if 0 ≤ x32 then (if x32 < (x26.length : Int) then (cottonpadlaw04_BurnEnds.l2 k x1 x4 x11 x12 x13 x14 x18 x20 x21 true true x24 x25 x26 x27 (decide ((rd x26 x32) ≥ x4)) x148 (wrap64 (x149 + 1)) x112000 x112001 x112002 x112003 x112004 x112005 x112006 x112007 x112008 x119000 x119001 x124000 x124001) else (none)) else (none)))) else (if x18 = 0 then (none) else (if x31 = true then (cottonpadlaw04_BurnEnds.l2 k x1 x4 x11 x12 x13 x14 x18 x20 x21 true (x32 == x124001) x24 x25 x26 x27 true x148 (wrap64 (x149 + 1)) x112000 x112001 x112002 x112003 x112004 x112005 x112006 x112007 x112008 x119000 x119001 x124000 x124001) else (if 0 ≤ x32 then (if x32 < (x26.length : Int) then (cottonpadlaw04_BurnEnds.l2 k x1 x4 x11 x12 x13 x14 x18 x20 x21 true (x32 == x124001) x24 x25 x26 x27 (decide ((rd x26 x32) ≥ x4)) x148 (wrap64 (x149 + 1)) x112000 x112001 x112002 x112003 x112004 x112005 x112006 x112007 x112008 x119000 x119001 x124000 x124001) else (none)) else (none))))) else (if x23 = true then (if x18 = 0 then (none) else (if x31 = true then (cottonpadlaw04_BurnEnds.l2 k x1 x4 x11 x12 x13 x14 x18 x20 x21 (x32 == x124000) true x24 x25 x26 x27 true x148 (wrap64 (x149 + 1)) x112000 x112001 x112002 x112003 x112004 x112005 x112006 x112007 x112008 x119000 x119001 x124000 x124001) else (if 0 ≤ x32 then (if x32 < (x26.length : Int) then (cottonpadlaw04_BurnEnds.l2 k x1 x4 x11 x12 x13 x14 x18 x20 x21 (x32 == x124000) true x24 x25 x26 x27 (decide ((rd x26 x32) ≥ x4)) x148 (wrap64 (x149 + 1)) x112000 x112001 x112002 x112003 x112004 x112005 x112006 x112007 x112008 x119000 x119001 x124000 x124001) else (none)) else (none)))) else (if x18 = 0 then (none) else (if x31 = true then (cottonpadlaw04_BurnEnds.l2 k x1 x4 x11 x12 x13 x14 x18 x20 x21 (x32 == x124000) (x32 == x124001) x24 x25 x26 x27 true x148 (wrap64 (x149 + 1)) x112000 x112001 x112002 x112003 x112004 x112005 x112006 x112007 x112008 x119000 x119001 x124000 x124001) else (if 0 ≤ x32 then (if x32 < (x26.length : Int) then (cottonpadlaw04_BurnEnds.l2 k x1 x4 x11 x12 x13 x14 x18 x20 x21 (x32 == x124000) (x32 == x124001) x24 x25 x26 x27 (decide ((rd x26 x32) ≥ x4)) x148 (wrap64 (x149 + 1)) x112000 x112001 x112002 x112003 x112004 x112005 x112006 x112007 x112008 x119000 x119001 x124000 x124001) else (none)) else (none)))))) else (if x31 = true then (cottonpadlaw04_BurnEnds.l2 k x1 x4 x11 x12 x13 x14 x18 x20 x21 x22 x23 x24 x25 x26 x27 true x148 (wrap64 (x149 + 1)) x112000 x112001 x112002 x112003 x112004 x112005 x112006 x112007 x112008 x119000 x119001 x124000 x124001) else (if 0 ≤ x32 then (if x32 < (x26.length : Int) then (cottonpadlaw04_BurnEnds.l2 k x1 x4 x11 x12 x13 x14 x18 x20 x21 x22 x23 x24 x25 x26 x27 (decide ((rd x26 x32) ≥ x4)) x148 (wrap64 (x149 + 1)) x112000 x112001 x112002 x112003 x112004 x112005 x112006 x112007 x112008 x119000 x119001 x124000 x124001) else (none)) else (none)))
end
def cottonpadlaw04_BurnEnds.f (k : Nat) (a0_0 : Int) (a0_1 : Int) (a0_2 : Int) (a0_3 : Int) (a0_4 : Int) (a0_5 : Int) (a0_6 : Int) (a0_7 : Int) (a0_8 : Int) (l1 : List Int) (a2 : Int) (a3 : Int) (a4 : Int) : Option (Bool) := (cottonpadlaw04_alive.f k).bind fun t112 => ((cottonpadlaw04_ready.f k a0_0 a0_1 a0_2 a0_3 a0_4 a0_5 a0_6 a0_7 a0_8 l1).bind fun t113 => (if t113 = true then (cottonpadlaw04_BurnEnds.j0 k l1 a2 a3 a4 t112 (!t112) a0_0 a0_1 a0_2 a0_3 a0_4 a0_5 a0_6 a0_7 a0_8) else (cottonpadlaw04_BurnEnds.j0 k l1 a2 a3 a4 t112 true a0_0 a0_1 a0_2 a0_3 a0_4 a0_5 a0_6 a0_7 a0_8)))
theorem cottonpadlaw04_BurnEnds.mono_l : ∀ k, (∀ y0 y1 y2 y3 y4 y5 y6 y7 y8 y9 y10 y11 y12 y13 y14, LeO (cottonpadlaw04_BurnEnds.j0 k y0 y1 y2 y3 y4 y5 y6 y7 y8 y9 y10 y11 y12 y13 y14) (cottonpadlaw04_BurnEnds.j0 (k + 1) y0 y1 y2 y3 y4 y5 y6 y7 y8 y9 y10 y11 y12 y13 y14)) ∧ (∀ y0 y1 y2 y3 y4 y5 y6 y7 y8 y9 y10 y11 y12 y13 y14 y15 y16 y17 y18 y19 y20 y21 y22 y23 y24 y25, LeO (cottonpadlaw04_BurnEnds.l0 k y0 y1 y2 y3 y4 y5 y6 y7 y8 y9 y10 y11 y12 y13 y14 y15 y16 y17 y18 y19 y20 y21 y22 y23 y24 y25) (cottonpadlaw04_BurnEnds.l0 (k + 1) y0 y1 y2 y3 y4 y5 y6 y7 y8 y9 y10 y11 y12 y13 y14 y15 y16 y17 y18 y19 y20 y21 y22 y23 y24 y25)) ∧ (∀ y0 y1 y2 y3 y4 y5 y6 y7 y8 y9 y10 y11 y12 y13 y14 y15 y16 y17 y18 y19 y20 y21 y22 y23 y24 y25 y26 y27 y28 y29 y30, LeO (cottonpadlaw04_BurnEnds.l1 k y0 y1 y2 y3 y4 y5 y6 y7 y8 y9 y10 y11 y12 y13 y14 y15 y16 y17 y18 y19 y20 y21 y22 y23 y24 y25 y26 y27 y28 y29 y30) (cottonpadlaw04_BurnEnds.l1 (k + 1) y0 y1 y2 y3 y4 y5 y6 y7 y8 y9 y10 y11 y12 y13 y14 y15 y16 y17 y18 y19 y20 y21 y22 y23 y24 y25 y26 y27 y28 y29 y30)) ∧ (∀ y0 y1 y2 y3 y4 y5 y6 y7 y8 y9 y10 y11 y12 y13 y14 y15 y16 y17 y18 y19 y20 y21 y22 y23 y24 y25 y26 y27 y28 y29, LeO (cottonpadlaw04_BurnEnds.j3 k y0 y1 y2 y3 y4 y5 y6 y7 y8 y9 y10 y11 y12 y13 y14 y15 y16 y17 y18 y19 y20 y21 y22 y23 y24 y25 y26 y27 y28 y29) (cottonpadlaw04_BurnEnds.j3 (k + 1) y0 y1 y2 y3 y4 y5 y6 y7 y8 y9 y10 y11 y12 y13 y14 y15 y16 y17 y18 y19 y20 y21 y22 y23 y24 y25 y26 y27 y28 y29)) ∧ (∀ y0 y1 y2 y3 y4 y5 y6 y7 y8 y9 y10 y11 y12 y13 y14 y15 y16 y17 y18 y19 y20 y21 y22 y23 y24 y25 y26 y27 y28, LeO (cottonpadlaw04_BurnEnds.j4 k y0 y1 y2 y3 y4 y5 y6 y7 y8 y9 y10 y11 y12 y13 y14 y15 y16 y17 y18 y19 y20 y21 y22 y23 y24 y25 y26 y27 y28) (cottonpadlaw04_BurnEnds.j4 (k + 1) y0 y1 y2 y3 y4 y5 y6 y7 y8 y9 y10 y11 y12 y13 y14 y15 y16 y17 y18 y19 y20 y21 y22 y23 y24 y25 y26 y27 y28)) ∧ (∀ y0 y1 y2 y3 y4 y5 y6 y7 y8 y9 y10 y11 y12 y13 y14 y15 y16 y17 y18 y19 y20 y21 y22 y23 y24 y25 y26 y27 y28 y29 y30, LeO (cottonpadlaw04_BurnEnds.l2 k y0 y1 y2 y3 y4 y5 y6 y7 y8 y9 y10 y11 y12 y13 y14 y15 y16 y17 y18 y19 y20 y21 y22 y23 y24 y25 y26 y27 y28 y29 y30) (cottonpadlaw04_BurnEnds.l2 (k + 1) y0 y1 y2 y3 y4 y5 y6 y7 y8 y9 y10 y11 y12 y13 y14 y15 y16 y17 y18 y19 y20 y21 y22 y23 y24 y25 y26 y27 y28 y29 y30)) ∧ (∀ y0 y1 y2 y3 y4 y5 y6 y7 y8 y9 y10 y11 y12 y13 y14 y15 y16 y17 y18 y19 y20 y21 y22 y23 y24 y25 y26 y27 y28 y29 y30 y31 y32, LeO (cottonpadlaw04_BurnEnds.j6 k y0 y1 y2 y3 y4 y5 y6 y7 y8 y9 y10 y11 y12 y13 y14 y15 y16 y17 y18 y19 y20 y21 y22 y23 y24 y25 y26 y27 y28 y29 y30 y31 y32) (cottonpadlaw04_BurnEnds.j6 (k + 1) y0 y1 y2 y3 y4 y5 y6 y7 y8 y9 y10 y11 y12 y13 y14 y15 y16 y17 y18 y19 y20 y21 y22 y23 y24 y25 y26 y27 y28 y29 y30 y31 y32))
 | 0 => ⟨fun _ _ _ _ _ _ _ _ _ _ _ _ _ _ _ r h => by simp [cottonpadlaw04_BurnEnds.j0] at h, fun _ _ _ _ _ _ _ _ _ _ _ _ _ _ _ _ _ _ _ _ _ _ _ _ _ _ r h => by simp [cottonpadlaw04_BurnEnds.l0] at h, fun _ _ _ _ _ _ _ _ _ _ _ _ _ _ _ _ _ _ _ _ _ _ _ _ _ _ _ _ _ _ _ r h => by simp [cottonpadlaw04_BurnEnds.l1] at h, fun _ _ _ _ _ _ _ _ _ _ _ _ _ _ _ _ _ _ _ _ _ _ _ _ _ _ _ _ _ _ r h => by simp [cottonpadlaw04_BurnEnds.j3] at h, fun _ _ _ _ _ _ _ _ _ _ _ _ _ _ _ _ _ _ _ _ _ _ _ _ _ _ _ _ _ r h => by simp [cottonpadlaw04_BurnEnds.j4] at h, fun _ _ _ _ _ _ _ _ _ _ _ _ _ _ _ _ _ _ _ _ _ _ _ _ _ _ _ _ _ _ _ r h => by simp [cottonpadlaw04_BurnEnds.l2] at h, fun _ _ _ _ _ _ _ _ _ _ _ _ _ _ _ _ _ _ _ _ _ _ _ _ _ _ _ _ _ _ _ _ _ r h => by simp [cottonpadlaw04_BurnEnds.j6] at h⟩
 | k + 1 => by
  obtain ⟨ih0, ih1, ih2, ih3, ih4, ih5, ih6⟩ := cottonpadlaw04_BurnEnds.mono_l k
  refine ⟨?_, ?_, ?_, ?_, ?_, ?_, ?_⟩
  ·
   intro y0 y1 y2 y3 y4 y5 y6 y7 y8 y9 y10 y11 y12 y13 y14
   unfold cottonpadlaw04_BurnEnds.j0
   repeat' first
   | (with_reducible exact ih0 _ _ _ _ _ _ _ _ _ _ _ _ _ _ _)
   | (with_reducible exact ih1 _ _ _ _ _ _ _ _ _ _ _ _ _ _ _ _ _ _ _ _ _ _ _ _ _ _)
   | (with_reducible exact ih2 _ _ _ _ _ _ _ _ _ _ _ _ _ _ _ _ _ _ _ _ _ _ _ _ _ _ _ _ _ _ _)
   | (with_reducible exact ih3 _ _ _ _ _ _ _ _ _ _ _ _ _ _ _ _ _ _ _ _ _ _ _ _ _ _ _ _ _ _)
   | (with_reducible exact ih4 _ _ _ _ _ _ _ _ _ _ _ _ _ _ _ _ _ _ _ _ _ _ _ _ _ _ _ _ _)
   | (with_reducible exact ih5 _ _ _ _ _ _ _ _ _ _ _ _ _ _ _ _ _ _ _ _ _ _ _ _ _ _ _ _ _ _ _)
   | (with_reducible exact ih6 _ _ _ _ _ _ _ _ _ _ _ _ _ _ _ _ _ _ _ _ _ _ _ _ _ _ _ _ _ _ _ _ _)
   | (with_reducible exact burn_First.mono _ _ _ _ _ _ _ _ _ _ _ _)
   | (with_reducible exact burn_Sum.mono _ _ _ _ _ _ _ _ _ _ _ _ _)
   | (with_reducible exact cottonpadlaw04_alive.mono _)
   | (with_reducible exact cottonpadlaw04_ends.mono _ _ _ _ _ _ _ _ _ _ _ _ _)
   | (with_reducible exact cottonpadlaw04_ready.mono _ _ _ _ _ _ _ _ _ _ _)
   | (with_reducible exact LeO.refl _)
   | (with_reducible exact LeO.none _)
   | (with_reducible refine LeO.ite ?_ ?_)
   | (with_reducible refine LeO.bind ?_ (fun _ => ?_))
   | exact ih0 _ _ _ _ _ _ _ _ _ _ _ _ _ _ _
   | exact ih1 _ _ _ _ _ _ _ _ _ _ _ _ _ _ _ _ _ _ _ _ _ _ _ _ _ _
   | exact ih2 _ _ _ _ _ _ _ _ _ _ _ _ _ _ _ _ _ _ _ _ _ _ _ _ _ _ _ _ _ _ _
   | exact ih3 _ _ _ _ _ _ _ _ _ _ _ _ _ _ _ _ _ _ _ _ _ _ _ _ _ _ _ _ _ _
   | exact ih4 _ _ _ _ _ _ _ _ _ _ _ _ _ _ _ _ _ _ _ _ _ _ _ _ _ _ _ _ _
   | exact ih5 _ _ _ _ _ _ _ _ _ _ _ _ _ _ _ _ _ _ _ _ _ _ _ _ _ _ _ _ _ _ _
   | exact ih6 _ _ _ _ _ _ _ _ _ _ _ _ _ _ _ _ _ _ _ _ _ _ _ _ _ _ _ _ _ _ _ _ _
   | exact burn_First.mono _ _ _ _ _ _ _ _ _ _ _ _
   | exact burn_Sum.mono _ _ _ _ _ _ _ _ _ _ _ _ _
   | exact cottonpadlaw04_alive.mono _
   | exact cottonpadlaw04_ends.mono _ _ _ _ _ _ _ _ _ _ _ _ _
   | exact cottonpadlaw04_ready.mono _ _ _ _ _ _ _ _ _ _ _
   | exact LeO.none _
   | refine LeO.ite ?_ ?_
   | refine LeO.bind ?_ (fun _ => ?_)
  ·
   intro y0 y1 y2 y3 y4 y5 y6 y7 y8 y9 y10 y11 y12 y13 y14 y15 y16 y17 y18 y19 y20 y21 y22 y23 y24 y25
   unfold cottonpadlaw04_BurnEnds.l0
   repeat' first
   | (with_reducible exact ih0 _ _ _ _ _ _ _ _ _ _ _ _ _ _ _)
   | (with_reducible exact ih1 _ _ _ _ _ _ _ _ _ _ _ _ _ _ _ _ _ _ _ _ _ _ _ _ _ _)
   | (with_reducible exact ih2 _ _ _ _ _ _ _ _ _ _ _ _ _ _ _ _ _ _ _ _ _ _ _ _ _ _ _ _ _ _ _)
   | (with_reducible exact ih3 _ _ _ _ _ _ _ _ _ _ _ _ _ _ _ _ _ _ _ _ _ _ _ _ _ _ _ _ _ _)
   | (with_reducible exact ih4 _ _ _ _ _ _ _ _ _ _ _ _ _ _ _ _ _ _ _ _ _ _ _ _ _ _ _ _ _)
   | (with_reducible exact ih5 _ _ _ _ _ _ _ _ _ _ _ _ _ _ _ _ _ _ _ _ _ _ _ _ _ _ _ _ _ _ _)
   | (with_reducible exact ih6 _ _ _ _ _ _ _ _ _ _ _ _ _ _ _ _ _ _ _ _ _ _ _ _ _ _ _ _ _ _ _ _ _)
   | (with_reducible exact burn_First.mono _ _ _ _ _ _ _ _ _ _ _ _)
   | (with_reducible exact burn_Sum.mono _ _ _ _ _ _ _ _ _ _ _ _ _)
   | (with_reducible exact cottonpadlaw04_alive.mono _)
   | (with_reducible exact cottonpadlaw04_ends.mono _ _ _ _ _ _ _ _ _ _ _ _ _)
   | (with_reducible exact cottonpadlaw04_ready.mono _ _ _ _ _ _ _ _ _ _ _)
   | (with_reducible exact LeO.refl _)
   | (with_reducible exact LeO.none _)
   | (with_reducible refine LeO.ite ?_ ?_)
   | (with_reducible refine LeO.bind ?_ (fun _ => ?_))
   | exact ih0 _ _ _ _ _ _ _ _ _ _ _ _ _ _ _
   | exact ih1 _ _ _ _ _ _ _ _ _ _ _ _ _ _ _ _ _ _ _ _ _ _ _ _ _ _
   | exact ih2 _ _ _ _ _ _ _ _ _ _ _ _ _ _ _ _ _ _ _ _ _ _ _ _ _ _ _ _ _ _ _
   | exact ih3 _ _ _ _ _ _ _ _ _ _ _ _ _ _ _ _ _ _ _ _ _ _ _ _ _ _ _ _ _ _
   | exact ih4 _ _ _ _ _ _ _ _ _ _ _ _ _ _ _ _ _ _ _ _ _ _ _ _ _ _ _ _ _
   | exact ih5 _ _ _ _ _ _ _ _ _ _ _ _ _ _ _ _ _ _ _ _ _ _ _ _ _ _ _ _ _ _ _
   | exact ih6 _ _ _ _ _ _ _ _ _ _ _ _ _ _ _ _ _ _ _ _ _ _ _ _ _ _ _ _ _ _ _ _ _
   | exact burn_First.mono _ _ _ _ _ _ _ _ _ _ _ _
   | exact burn_Sum.mono _ _ _ _ _ _ _ _ _ _ _ _ _
   | exact cottonpadlaw04_alive.mono _
   | exact cottonpadlaw04_ends.mono _ _ _ _ _ _ _ _ _ _ _ _ _
   | exact cottonpadlaw04_ready.mono _ _ _ _ _ _ _ _ _ _ _
   | exact LeO.none _
   | refine LeO.ite ?_ ?_
   | refine LeO.bind ?_ (fun _ => ?_)
  ·
   intro y0 y1 y2 y3 y4 y5 y6 y7 y8 y9 y10 y11 y12 y13 y14 y15 y16 y17 y18 y19 y20 y21 y22 y23 y24 y25 y26 y27 y28 y29 y30
   unfold cottonpadlaw04_BurnEnds.l1
   repeat' first
   | (with_reducible exact ih0 _ _ _ _ _ _ _ _ _ _ _ _ _ _ _)
   | (with_reducible exact ih1 _ _ _ _ _ _ _ _ _ _ _ _ _ _ _ _ _ _ _ _ _ _ _ _ _ _)
   | (with_reducible exact ih2 _ _ _ _ _ _ _ _ _ _ _ _ _ _ _ _ _ _ _ _ _ _ _ _ _ _ _ _ _ _ _)
   | (with_reducible exact ih3 _ _ _ _ _ _ _ _ _ _ _ _ _ _ _ _ _ _ _ _ _ _ _ _ _ _ _ _ _ _)
   | (with_reducible exact ih4 _ _ _ _ _ _ _ _ _ _ _ _ _ _ _ _ _ _ _ _ _ _ _ _ _ _ _ _ _)
   | (with_reducible exact ih5 _ _ _ _ _ _ _ _ _ _ _ _ _ _ _ _ _ _ _ _ _ _ _ _ _ _ _ _ _ _ _)
   | (with_reducible exact ih6 _ _ _ _ _ _ _ _ _ _ _ _ _ _ _ _ _ _ _ _ _ _ _ _ _ _ _ _ _ _ _ _ _)
   | (with_reducible exact burn_First.mono _ _ _ _ _ _ _ _ _ _ _ _)
   | (with_reducible exact burn_Sum.mono _ _ _ _ _ _ _ _ _ _ _ _ _)
   | (with_reducible exact cottonpadlaw04_alive.mono _)
   | (with_reducible exact cottonpadlaw04_ends.mono _ _ _ _ _ _ _ _ _ _ _ _ _)
   | (with_reducible exact cottonpadlaw04_ready.mono _ _ _ _ _ _ _ _ _ _ _)
   | (with_reducible exact LeO.refl _)
   | (with_reducible exact LeO.none _)
   | (with_reducible refine LeO.ite ?_ ?_)
   | (with_reducible refine LeO.bind ?_ (fun _ => ?_))
   | exact ih0 _ _ _ _ _ _ _ _ _ _ _ _ _ _ _
   | exact ih1 _ _ _ _ _ _ _ _ _ _ _ _ _ _ _ _ _ _ _ _ _ _ _ _ _ _
   | exact ih2 _ _ _ _ _ _ _ _ _ _ _ _ _ _ _ _ _ _ _ _ _ _ _ _ _ _ _ _ _ _ _
   | exact ih3 _ _ _ _ _ _ _ _ _ _ _ _ _ _ _ _ _ _ _ _ _ _ _ _ _ _ _ _ _ _
   | exact ih4 _ _ _ _ _ _ _ _ _ _ _ _ _ _ _ _ _ _ _ _ _ _ _ _ _ _ _ _ _
   | exact ih5 _ _ _ _ _ _ _ _ _ _ _ _ _ _ _ _ _ _ _ _ _ _ _ _ _ _ _ _ _ _ _
   | exact ih6 _ _ _ _ _ _ _ _ _ _ _ _ _ _ _ _ _ _ _ _ _ _ _ _ _ _ _ _ _ _ _ _ _
   | exact burn_First.mono _ _ _ _ _ _ _ _ _ _ _ _
   | exact burn_Sum.mono _ _ _ _ _ _ _ _ _ _ _ _ _
   | exact cottonpadlaw04_alive.mono _
   | exact cottonpadlaw04_ends.mono _ _ _ _ _ _ _ _ _ _ _ _ _
   | exact cottonpadlaw04_ready.mono _ _ _ _ _ _ _ _ _ _ _
   | exact LeO.none _
   | refine LeO.ite ?_ ?_
   | refine LeO.bind ?_ (fun _ => ?_)
  ·
   intro y0 y1 y2 y3 y4 y5 y6 y7 y8 y9 y10 y11 y12 y13 y14 y15 y16 y17 y18 y19 y20 y21 y22 y23 y24 y25 y26 y27 y28 y29
   unfold cottonpadlaw04_BurnEnds.j3
   repeat' first
   | (with_reducible exact ih0 _ _ _ _ _ _ _ _ _ _ _ _ _ _ _)
   | (with_reducible exact ih1 _ _ _ _ _ _ _ _ _ _ _ _ _ _ _ _ _ _ _ _ _ _ _ _ _ _)
   | (with_reducible exact ih2 _ _ _ _ _ _ _ _ _ _ _ _ _ _ _ _ _ _ _ _ _ _ _ _ _ _ _ _ _ _ _)
   | (with_reducible exact ih3 _ _ _ _ _ _ _ _ _ _ _ _ _ _ _ _ _ _ _ _ _ _ _ _ _ _ _ _ _ _)
   | (with_reducible exact ih4 _ _ _ _ _ _ _ _ _ _ _ _ _ _ _ _ _ _ _ _ _ _ _ _ _ _ _ _ _)
   | (with_reducible exact ih5 _ _ _ _ _ _ _ _ _ _ _ _ _ _ _ _ _ _ _ _ _ _ _ _ _ _ _ _ _ _ _)
   | (with_reducible exact ih6 _ _ _ _ _ _ _ _ _ _ _ _ _ _ _ _ _ _ _ _ _ _ _ _ _ _ _ _ _ _ _ _ _)
   | (with_reducible exact burn_First.mono _ _ _ _ _ _ _ _ _ _ _ _)
   | (with_reducible exact burn_Sum.mono _ _ _ _ _ _ _ _ _ _ _ _ _)
   | (with_reducible exact cottonpadlaw04_alive.mono _)
   | (with_reducible exact cottonpadlaw04_ends.mono _ _ _ _ _ _ _ _ _ _ _ _ _)
   | (with_reducible exact cottonpadlaw04_ready.mono _ _ _ _ _ _ _ _ _ _ _)
   | (with_reducible exact LeO.refl _)
   | (with_reducible exact LeO.none _)
   | (with_reducible refine LeO.ite ?_ ?_)
   | (with_reducible refine LeO.bind ?_ (fun _ => ?_))
   | exact ih0 _ _ _ _ _ _ _ _ _ _ _ _ _ _ _
   | exact ih1 _ _ _ _ _ _ _ _ _ _ _ _ _ _ _ _ _ _ _ _ _ _ _ _ _ _
   | exact ih2 _ _ _ _ _ _ _ _ _ _ _ _ _ _ _ _ _ _ _ _ _ _ _ _ _ _ _ _ _ _ _
   | exact ih3 _ _ _ _ _ _ _ _ _ _ _ _ _ _ _ _ _ _ _ _ _ _ _ _ _ _ _ _ _ _
   | exact ih4 _ _ _ _ _ _ _ _ _ _ _ _ _ _ _ _ _ _ _ _ _ _ _ _ _ _ _ _ _
   | exact ih5 _ _ _ _ _ _ _ _ _ _ _ _ _ _ _ _ _ _ _ _ _ _ _ _ _ _ _ _ _ _ _
   | exact ih6 _ _ _ _ _ _ _ _ _ _ _ _ _ _ _ _ _ _ _ _ _ _ _ _ _ _ _ _ _ _ _ _ _
   | exact burn_First.mono _ _ _ _ _ _ _ _ _ _ _ _
   | exact burn_Sum.mono _ _ _ _ _ _ _ _ _ _ _ _ _
   | exact cottonpadlaw04_alive.mono _
   | exact cottonpadlaw04_ends.mono _ _ _ _ _ _ _ _ _ _ _ _ _
   | exact cottonpadlaw04_ready.mono _ _ _ _ _ _ _ _ _ _ _
   | exact LeO.none _
   | refine LeO.ite ?_ ?_
   | refine LeO.bind ?_ (fun _ => ?_)
  ·
   intro y0 y1 y2 y3 y4 y5 y6 y7 y8 y9 y10 y11 y12 y13 y14 y15 y16 y17 y18 y19 y20 y21 y22 y23 y24 y25 y26 y27 y28
   unfold cottonpadlaw04_BurnEnds.j4
   repeat' first
   | (with_reducible exact ih0 _ _ _ _ _ _ _ _ _ _ _ _ _ _ _)
   | (with_reducible exact ih1 _ _ _ _ _ _ _ _ _ _ _ _ _ _ _ _ _ _ _ _ _ _ _ _ _ _)
   | (with_reducible exact ih2 _ _ _ _ _ _ _ _ _ _ _ _ _ _ _ _ _ _ _ _ _ _ _ _ _ _ _ _ _ _ _)
   | (with_reducible exact ih3 _ _ _ _ _ _ _ _ _ _ _ _ _ _ _ _ _ _ _ _ _ _ _ _ _ _ _ _ _ _)
   | (with_reducible exact ih4 _ _ _ _ _ _ _ _ _ _ _ _ _ _ _ _ _ _ _ _ _ _ _ _ _ _ _ _ _)
   | (with_reducible exact ih5 _ _ _ _ _ _ _ _ _ _ _ _ _ _ _ _ _ _ _ _ _ _ _ _ _ _ _ _ _ _ _)
   | (with_reducible exact ih6 _ _ _ _ _ _ _ _ _ _ _ _ _ _ _ _ _ _ _ _ _ _ _ _ _ _ _ _ _ _ _ _ _)
   | (with_reducible exact burn_First.mono _ _ _ _ _ _ _ _ _ _ _ _)
   | (with_reducible exact burn_Sum.mono _ _ _ _ _ _ _ _ _ _ _ _ _)
   | (with_reducible exact cottonpadlaw04_alive.mono _)
   | (with_reducible exact cottonpadlaw04_ends.mono _ _ _ _ _ _ _ _ _ _ _ _ _)
   | (with_reducible exact cottonpadlaw04_ready.mono _ _ _ _ _ _ _ _ _ _ _)
   | (with_reducible exact LeO.refl _)
   | (with_reducible exact LeO.none _)
   | (with_reducible refine LeO.ite ?_ ?_)
   | (with_reducible refine LeO.bind ?_ (fun _ => ?_))
   | exact ih0 _ _ _ _ _ _ _ _ _ _ _ _ _ _ _
   | exact ih1 _ _ _ _ _ _ _ _ _ _ _ _ _ _ _ _ _ _ _ _ _ _ _ _ _ _
   | exact ih2 _ _ _ _ _ _ _ _ _ _ _ _ _ _ _ _ _ _ _ _ _ _ _ _ _ _ _ _ _ _ _
   | exact ih3 _ _ _ _ _ _ _ _ _ _ _ _ _ _ _ _ _ _ _ _ _ _ _ _ _ _ _ _ _ _
   | exact ih4 _ _ _ _ _ _ _ _ _ _ _ _ _ _ _ _ _ _ _ _ _ _ _ _ _ _ _ _ _
   | exact ih5 _ _ _ _ _ _ _ _ _ _ _ _ _ _ _ _ _ _ _ _ _ _ _ _ _ _ _ _ _ _ _
   | exact ih6 _ _ _ _ _ _ _ _ _ _ _ _ _ _ _ _ _ _ _ _ _ _ _ _ _ _ _ _ _ _ _ _ _
   | exact burn_First.mono _ _ _ _ _ _ _ _ _ _ _ _
   | exact burn_Sum.mono _ _ _ _ _ _ _ _ _ _ _ _ _
   | exact cottonpadlaw04_alive.mono _
   | exact cottonpadlaw04_ends.mono _ _ _ _ _ _ _ _ _ _ _ _ _
   | exact cottonpadlaw04_ready.mono _ _ _ _ _ _ _ _ _ _ _
   | exact LeO.none _
   | refine LeO.ite ?_ ?_
   | refine LeO.bind ?_ (fun _ => ?_)
  ·
   intro y0 y1 y2 y3 y4 y5 y6 y7 y8 y9 y10 y11 y12 y13 y14 y15 y16 y17 y18 y19 y20 y21 y22 y23 y24 y25 y26 y27 y28 y29 y30
   unfold cottonpadlaw04_BurnEnds.l2
   repeat' first
   | (with_reducible exact ih0 _ _ _ _ _ _ _ _ _ _ _ _ _ _ _)
   | (with_reducible exact ih1 _ _ _ _ _ _ _ _ _ _ _ _ _ _ _ _ _ _ _ _ _ _ _ _ _ _)
   | (with_reducible exact ih2 _ _ _ _ _ _ _ _ _ _ _ _ _ _ _ _ _ _ _ _ _ _ _ _ _ _ _ _ _ _ _)
   | (with_reducible exact ih3 _ _ _ _ _ _ _ _ _ _ _ _ _ _ _ _ _ _ _ _ _ _ _ _ _ _ _ _ _ _)
   | (with_reducible exact ih4 _ _ _ _ _ _ _ _ _ _ _ _ _ _ _ _ _ _ _ _ _ _ _ _ _ _ _ _ _)
   | (with_reducible exact ih5 _ _ _ _ _ _ _ _ _ _ _ _ _ _ _ _ _ _ _ _ _ _ _ _ _ _ _ _ _ _ _)
   | (with_reducible exact ih6 _ _ _ _ _ _ _ _ _ _ _ _ _ _ _ _ _ _ _ _ _ _ _ _ _ _ _ _ _ _ _ _ _)
   | (with_reducible exact burn_First.mono _ _ _ _ _ _ _ _ _ _ _ _)
   | (with_reducible exact burn_Sum.mono _ _ _ _ _ _ _ _ _ _ _ _ _)
   | (with_reducible exact cottonpadlaw04_alive.mono _)
   | (with_reducible exact cottonpadlaw04_ends.mono _ _ _ _ _ _ _ _ _ _ _ _ _)
   | (with_reducible exact cottonpadlaw04_ready.mono _ _ _ _ _ _ _ _ _ _ _)
   | (with_reducible exact LeO.refl _)
   | (with_reducible exact LeO.none _)
   | (with_reducible refine LeO.ite ?_ ?_)
   | (with_reducible refine LeO.bind ?_ (fun _ => ?_))
   | exact ih0 _ _ _ _ _ _ _ _ _ _ _ _ _ _ _
   | exact ih1 _ _ _ _ _ _ _ _ _ _ _ _ _ _ _ _ _ _ _ _ _ _ _ _ _ _
   | exact ih2 _ _ _ _ _ _ _ _ _ _ _ _ _ _ _ _ _ _ _ _ _ _ _ _ _ _ _ _ _ _ _
   | exact ih3 _ _ _ _ _ _ _ _ _ _ _ _ _ _ _ _ _ _ _ _ _ _ _ _ _ _ _ _ _ _
   | exact ih4 _ _ _ _ _ _ _ _ _ _ _ _ _ _ _ _ _ _ _ _ _ _ _ _ _ _ _ _ _
   | exact ih5 _ _ _ _ _ _ _ _ _ _ _ _ _ _ _ _ _ _ _ _ _ _ _ _ _ _ _ _ _ _ _
   | exact ih6 _ _ _ _ _ _ _ _ _ _ _ _ _ _ _ _ _ _ _ _ _ _ _ _ _ _ _ _ _ _ _ _ _
   | exact burn_First.mono _ _ _ _ _ _ _ _ _ _ _ _
   | exact burn_Sum.mono _ _ _ _ _ _ _ _ _ _ _ _ _
   | exact cottonpadlaw04_alive.mono _
   | exact cottonpadlaw04_ends.mono _ _ _ _ _ _ _ _ _ _ _ _ _
   | exact cottonpadlaw04_ready.mono _ _ _ _ _ _ _ _ _ _ _
   | exact LeO.none _
   | refine LeO.ite ?_ ?_
   | refine LeO.bind ?_ (fun _ => ?_)
  ·
   intro y0 y1 y2 y3 y4 y5 y6 y7 y8 y9 y10 y11 y12 y13 y14 y15 y16 y17 y18 y19 y20 y21 y22 y23 y24 y25 y26 y27 y28 y29 y30 y31 y32
   unfold cottonpadlaw04_BurnEnds.j6
   repeat' first
   | (with_reducible exact ih0 _ _ _ _ _ _ _ _ _ _ _ _ _ _ _)
   | (with_reducible exact ih1 _ _ _ _ _ _ _ _ _ _ _ _ _ _ _ _ _ _ _ _ _ _ _ _ _ _)
   | (with_reducible exact ih2 _ _ _ _ _ _ _ _ _ _ _ _ _ _ _ _ _ _ _ _ _ _ _ _ _ _ _ _ _ _ _)
   | (with_reducible exact ih3 _ _ _ _ _ _ _ _ _ _ _ _ _ _ _ _ _ _ _ _ _ _ _ _ _ _ _ _ _ _)
   | (with_reducible exact ih4 _ _ _ _ _ _ _ _ _ _ _ _ _ _ _ _ _ _ _ _ _ _ _ _ _ _ _ _ _)
   | (with_reducible exact ih5 _ _ _ _ _ _ _ _ _ _ _ _ _ _ _ _ _ _ _ _ _ _ _ _ _ _ _ _ _ _ _)
   | (with_reducible exact ih6 _ _ _ _ _ _ _ _ _ _ _ _ _ _ _ _ _ _ _ _ _ _ _ _ _ _ _ _ _ _ _ _ _)
   | (with_reducible exact burn_First.mono _ _ _ _ _ _ _ _ _ _ _ _)
   | (with_reducible exact burn_Sum.mono _ _ _ _ _ _ _ _ _ _ _ _ _)
   | (with_reducible exact cottonpadlaw04_alive.mono _)
   | (with_reducible exact cottonpadlaw04_ends.mono _ _ _ _ _ _ _ _ _ _ _ _ _)
   | (with_reducible exact cottonpadlaw04_ready.mono _ _ _ _ _ _ _ _ _ _ _)
   | (with_reducible exact LeO.refl _)
   | (with_reducible exact LeO.none _)
   | (with_reducible refine LeO.ite ?_ ?_)
   | (with_reducible refine LeO.bind ?_ (fun _ => ?_))
   | exact ih0 _ _ _ _ _ _ _ _ _ _ _ _ _ _ _
   | exact ih1 _ _ _ _ _ _ _ _ _ _ _ _ _ _ _ _ _ _ _ _ _ _ _ _ _ _
   | exact ih2 _ _ _ _ _ _ _ _ _ _ _ _ _ _ _ _ _ _ _ _ _ _ _ _ _ _ _ _ _ _ _
   | exact ih3 _ _ _ _ _ _ _ _ _ _ _ _ _ _ _ _ _ _ _ _ _ _ _ _ _ _ _ _ _ _
   | exact ih4 _ _ _ _ _ _ _ _ _ _ _ _ _ _ _ _ _ _ _ _ _ _ _ _ _ _ _ _ _
   | exact ih5 _ _ _ _ _ _ _ _ _ _ _ _ _ _ _ _ _ _ _ _ _ _ _ _ _ _ _ _ _ _ _
   | exact ih6 _ _ _ _ _ _ _ _ _ _ _ _ _ _ _ _ _ _ _ _ _ _ _ _ _ _ _ _ _ _ _ _ _
   | exact burn_First.mono _ _ _ _ _ _ _ _ _ _ _ _
   | exact burn_Sum.mono _ _ _ _ _ _ _ _ _ _ _ _ _
   | exact cottonpadlaw04_alive.mono _
   | exact cottonpadlaw04_ends.mono _ _ _ _ _ _ _ _ _ _ _ _ _
   | exact cottonpadlaw04_ready.mono _ _ _ _ _ _ _ _ _ _ _
   | exact LeO.none _
   | refine LeO.ite ?_ ?_
   | refine LeO.bind ?_ (fun _ => ?_)
theorem cottonpadlaw04_BurnEnds.mono : ∀ a0 a1 a2 a3 a4 a5 a6 a7 a8 a9 a10 a11 a12 k, LeO (cottonpadlaw04_BurnEnds.f k a0 a1 a2 a3 a4 a5 a6 a7 a8 a9 a10 a11 a12) (cottonpadlaw04_BurnEnds.f (k + 1) a0 a1 a2 a3 a4 a5 a6 a7 a8 a9 a10 a11 a12) := by
 intro a0 a1 a2 a3 a4 a5 a6 a7 a8 a9 a10 a11 a12 k
 obtain ⟨ih0, ih1, ih2, ih3, ih4, ih5, ih6⟩ := cottonpadlaw04_BurnEnds.mono_l k
 unfold cottonpadlaw04_BurnEnds.f
 repeat' first
   | (with_reducible exact ih0 _ _ _ _ _ _ _ _ _ _ _ _ _ _ _)
   | (with_reducible exact ih1 _ _ _ _ _ _ _ _ _ _ _ _ _ _ _ _ _ _ _ _ _ _ _ _ _ _)
   | (with_reducible exact ih2 _ _ _ _ _ _ _ _ _ _ _ _ _ _ _ _ _ _ _ _ _ _ _ _ _ _ _ _ _ _ _)
   | (with_reducible exact ih3 _ _ _ _ _ _ _ _ _ _ _ _ _ _ _ _ _ _ _ _ _ _ _ _ _ _ _ _ _ _)
   | (with_reducible exact ih4 _ _ _ _ _ _ _ _ _ _ _ _ _ _ _ _ _ _ _ _ _ _ _ _ _ _ _ _ _)
   | (with_reducible exact ih5 _ _ _ _ _ _ _ _ _ _ _ _ _ _ _ _ _ _ _ _ _ _ _ _ _ _ _ _ _ _ _)
   | (with_reducible exact ih6 _ _ _ _ _ _ _ _ _ _ _ _ _ _ _ _ _ _ _ _ _ _ _ _ _ _ _ _ _ _ _ _ _)
   | (with_reducible exact burn_First.mono _ _ _ _ _ _ _ _ _ _ _ _)
   | (with_reducible exact burn_Sum.mono _ _ _ _ _ _ _ _ _ _ _ _ _)
   | (with_reducible exact cottonpadlaw04_alive.mono _)
   | (with_reducible exact cottonpadlaw04_ends.mono _ _ _ _ _ _ _ _ _ _ _ _ _)
   | (with_reducible exact cottonpadlaw04_ready.mono _ _ _ _ _ _ _ _ _ _ _)
   | (with_reducible exact LeO.refl _)
   | (with_reducible exact LeO.none _)
   | (with_reducible refine LeO.ite ?_ ?_)
   | (with_reducible refine LeO.bind ?_ (fun _ => ?_))
   | exact ih0 _ _ _ _ _ _ _ _ _ _ _ _ _ _ _
   | exact ih1 _ _ _ _ _ _ _ _ _ _ _ _ _ _ _ _ _ _ _ _ _ _ _ _ _ _
   | exact ih2 _ _ _ _ _ _ _ _ _ _ _ _ _ _ _ _ _ _ _ _ _ _ _ _ _ _ _ _ _ _ _
   | exact ih3 _ _ _ _ _ _ _ _ _ _ _ _ _ _ _ _ _ _ _ _ _ _ _ _ _ _ _ _ _ _
   | exact ih4 _ _ _ _ _ _ _ _ _ _ _ _ _ _ _ _ _ _ _ _ _ _ _ _ _ _ _ _ _
   | exact ih5 _ _ _ _ _ _ _ _ _ _ _ _ _ _ _ _ _ _ _ _ _ _ _ _ _ _ _ _ _ _ _
   | exact ih6 _ _ _ _ _ _ _ _ _ _ _ _ _ _ _ _ _ _ _ _ _ _ _ _ _ _ _ _ _ _ _ _ _
   | exact burn_First.mono _ _ _ _ _ _ _ _ _ _ _ _
   | exact burn_Sum.mono _ _ _ _ _ _ _ _ _ _ _ _ _
   | exact cottonpadlaw04_alive.mono _
   | exact cottonpadlaw04_ends.mono _ _ _ _ _ _ _ _ _ _ _ _ _
   | exact cottonpadlaw04_ready.mono _ _ _ _ _ _ _ _ _ _ _
   | exact LeO.none _
   | refine LeO.ite ?_ ?_
   | refine LeO.bind ?_ (fun _ => ?_)
def cottonpadlaw04_BurnEnds.T5 : Bool × List (List Nat × List Nat) := (true, [([], []), ([0], [0]), ([], []), ([2], [2]), ([1, 3], [1, 3]), ([], []), ([5], [5]), ([], []), ([7], [7]), ([6, 8], [6, 8]), ([4, 0, 1, 2, 3, 4], [4]), ([9, 10, 0, 1, 2, 3, 4, 5, 6, 7, 8, 9, 10], [9])])
def cottonpadlaw04_BurnEnds.B5 : List Nat := [0, 1, 0, 4, 15, 0, 32, 0, 128, 480, 31, 2047]
theorem cottonpadlaw04_BurnEnds.tab5 : rtab .any (opsOf Tryd.f6 5) = cottonpadlaw04_BurnEnds.T5 := by kernel_rfl
theorem cottonpadlaw04_BurnEnds.bits5 : waitsOk cottonpadlaw04_BurnEnds.T5.2 cottonpadlaw04_BurnEnds.B5 = true := by kernel_rfl
def cottonpadlaw04_BurnEnds.T18 : Bool × List (List Nat × List Nat) := (true, [([], []), ([], []), ([], []), ([0, 1, 2], [0, 1, 2]), ([], []), ([], []), ([], []), ([4, 5, 6, 3], [4, 5, 6]), ([3, 7, 0, 1, 2, 3], [3]), ([7, 8, 0, 1, 2, 3, 4, 5, 6, 7, 8], [7])])
def cottonpadlaw04_BurnEnds.B18 : List Nat := [0, 0, 0, 7, 0, 0, 0, 127, 255, 511]
theorem cottonpadlaw04_BurnEnds.tab18 : rtab .any (opsOf Tryd.f6 18) = cottonpadlaw04_BurnEnds.T18 := by kernel_rfl
theorem cottonpadlaw04_BurnEnds.bits18 : waitsOk cottonpadlaw04_BurnEnds.T18.2 cottonpadlaw04_BurnEnds.B18 = true := by kernel_rfl
def cottonpadlaw04_BurnEnds.T25 : Bool × List (List Nat × List Nat) := (true, [([], []), ([0], [0]), ([1], [1]), ([1], [1]), ([3, 1], [1, 3]), ([2, 4, 1], [1, 2, 4]), ([1, 5], [1, 5]), ([], []), ([7, 1], [7]), ([8], [8]), ([8], [8]), ([10, 8], [8, 10]), ([9, 11, 8], [8, 9, 11]), ([8, 12], [8, 12]), ([6, 8, 0, 1, 2, 3, 4, 5, 6], [0, 6]), ([13, 14, 0, 1, 2, 3, 4, 5, 6, 7, 8, 9, 10, 11, 12, 13, 14], [7, 13])])
def cottonpadlaw04_BurnEnds.B25 : List Nat := [0, 1, 3, 3, 11, 31, 63, 0, 131, 387, 387, 1411, 3971, 8067, 511, 32767]
theorem cottonpadlaw04_BurnEnds.tab25 : rtab .any (opsOf Tryd.f6 25) = cottonpadlaw04_BurnEnds.T25 := by kernel_rfl
theorem cottonpadlaw04_BurnEnds.bits25 : waitsOk cottonpadlaw04_BurnEnds.T25.2 cottonpadlaw04_BurnEnds.B25 = true := by kernel_rfl
def cottonpadlaw04_BurnEnds.T33 : Bool × List (List Nat × List Nat) := (true, [([], []), ([0], [0]), ([1], [1]), ([1], [1]), ([3, 1], [1, 3]), ([2, 4, 1], [1, 2, 4]), ([1, 5], [1, 5]), ([], []), ([7, 1], [7]), ([8], [8]), ([8], [8]), ([10, 8], [8, 10]), ([9, 11, 8], [8, 9, 11]), ([8, 12], [8, 12]), ([6, 8, 0, 1, 2, 3, 4, 5, 6], [0, 6]), ([13, 14, 0, 1, 2, 3, 4, 5, 6, 7, 8, 9, 10, 11, 12, 13, 14], [7, 13])])
def cottonpadlaw04_BurnEnds.B33 : List Nat := [0, 1, 3, 3, 11, 31, 63, 0, 131, 387, 387, 1411, 3971, 8067, 511, 32767]
theorem cottonpadlaw04_BurnEnds.tab33 : rtab .any (opsOf Tryd.f6 33) = cottonpadlaw04_BurnEnds.T33 := by kernel_rfl
theorem cottonpadlaw04_BurnEnds.bits33 : waitsOk cottonpadlaw04_BurnEnds.T33.2 cottonpadlaw04_BurnEnds.B33 = true := by kernel_rfl
end Go.Proofs.YtfgclmbndgakgaaDoor.PE
