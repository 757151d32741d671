/- Printed for this claim by this session's own driver over the kit's printer: the machine side of plain functions: what each returns, and that it leaves memory below its own blocks alone. -/
import Derived.Test.YtfgclmbndgakgaaDoorPDx0
import Derived.Test.YtfgclmbndgakgaaDoorPDx1
namespace Go.Proofs.YtfgclmbndgakgaaDoor.PD
open Go.RowKit Go.Proofs.YtfgclmbndgakgaaDoorW.PrintWords Go.Proofs.YtfgclmbndgakgaaDoorW.PrintLast Go.Proofs.YtfgclmbndgakgaaDoor.PA Go.Proofs.YtfgclmbndgakgaaDoor.PR Go.Proofs.YtfgclmbndgakgaaDoorW.PrintMore
attribute [local go_sem] max2_int min2_int max_two min_two max_three min_three max_four min_four   -- for this text's walks alone
set_option linter.unusedVariables false
set_option linter.unusedSimpArgs false

attribute [local go_sem high] eqA23
/-! ### cottonpadlaw04_BurnClosed: function 7 -/
mutual
def cottonpadlaw04_BurnClosed.j0 : Nat → List Int → Int → Int → Int → Bool → Bool → Int → Int → Int → Int → Int → Int → Int → Int → Int → Option (Bool)
 | 0, _, _, _, _, _, _, _, _, _, _, _, _, _, _, _ => none
 | k + 1, x1, x2, x3, x4, x11, x39, x102000, x102001, x102002, x102003, x102004, x102005, x102006, x102007, x102008 => if x39 = true then (some x11) else ((cottonpadref04_Seconds.f x102000 x102001 x102002 x102003 x102004 x102005 x102006 x102007 x102008 x1).bind fun t104 => (if (wrap64 (t104 + 1)) = 0 then (none) else ((burn_Sum.f k x102000 x102001 x102002 x102003 x102004 x102005 x102006 x102007 x102008 x1 (mn (mn (Int.tmod (wrap64 (x2)) (wrap64 (t104 + 1))) (Int.tmod (wrap64 (x3)) (wrap64 (t104 + 1)))) (Int.tmod (wrap64 (x4)) (wrap64 (t104 + 1)))) (wrap64 ((wrap64 ((wrap64 ((wrap64 ((Int.tmod (wrap64 (x2)) (wrap64 (t104 + 1))) + (Int.tmod (wrap64 (x3)) (wrap64 (t104 + 1))))) + (Int.tmod (wrap64 (x4)) (wrap64 (t104 + 1))))) - (mn (mn (Int.tmod (wrap64 (x2)) (wrap64 (t104 + 1))) (Int.tmod (wrap64 (x3)) (wrap64 (t104 + 1)))) (Int.tmod (wrap64 (x4)) (wrap64 (t104 + 1)))))) - (mx (mx (Int.tmod (wrap64 (x2)) (wrap64 (t104 + 1))) (Int.tmod (wrap64 (x3)) (wrap64 (t104 + 1)))) (Int.tmod (wrap64 (x4)) (wrap64 (t104 + 1))))))).bind fun bt105 => ((burn_Sum.f k x102000 x102001 x102002 x102003 x102004 x102005 x102006 x102007 x102008 x1 (wrap64 ((wrap64 ((wrap64 ((wrap64 ((Int.tmod (wrap64 (x2)) (wrap64 (t104 + 1))) + (Int.tmod (wrap64 (x3)) (wrap64 (t104 + 1))))) + (Int.tmod (wrap64 (x4)) (wrap64 (t104 + 1))))) - (mn (mn (Int.tmod (wrap64 (x2)) (wrap64 (t104 + 1))) (Int.tmod (wrap64 (x3)) (wrap64 (t104 + 1)))) (Int.tmod (wrap64 (x4)) (wrap64 (t104 + 1)))))) - (mx (mx (Int.tmod (wrap64 (x2)) (wrap64 (t104 + 1))) (Int.tmod (wrap64 (x3)) (wrap64 (t104 + 1)))) (Int.tmod (wrap64 (x4)) (wrap64 (t104 + 1)))))) (mx (mx (Int.tmod (wrap64 (x2)) (wrap64 (t104 + 1))) (Int.tmod (wrap64 (x3)) (wrap64 (t104 + 1)))) (Int.tmod (wrap64 (x4)) (wrap64 (t104 + 1))))).bind fun bt109 => ((burn_Sum.f k x102000 x102001 x102002 x102003 x102004 x102005 x102006 x102007 x102008 x1 (mn (mn (Int.tmod (wrap64 (x2)) (wrap64 (t104 + 1))) (Int.tmod (wrap64 (x3)) (wrap64 (t104 + 1)))) (Int.tmod (wrap64 (x4)) (wrap64 (t104 + 1)))) (mx (mx (Int.tmod (wrap64 (x2)) (wrap64 (t104 + 1))) (Int.tmod (wrap64 (x3)) (wrap64 (t104 + 1)))) (Int.tmod (wrap64 (x4)) (wrap64 (t104 + 1))))).bind fun bt113 => ((burn_Sum.f k x102000 x102001 x102002 x102003 x102004 x102005 x102006 x102007 x102008 x1 (wrap64 ((wrap64 ((wrap64 ((wrap64 ((Int.tmod (wrap64 (x2)) (wrap64 (t104 + 1))) + (Int.tmod (wrap64 (x3)) (wrap64 (t104 + 1))))) + (Int.tmod (wrap64 (x4)) (wrap64 (t104 + 1))))) - (mn (mn (Int.tmod (wrap64 (x2)) (wrap64 (t104 + 1))) (Int.tmod (wrap64 (x3)) (wrap64 (t104 + 1)))) (Int.tmod (wrap64 (x4)) (wrap64 (t104 + 1)))))) - (mx (mx (Int.tmod (wrap64 (x2)) (wrap64 (t104 + 1))) (Int.tmod (wrap64 (x3)) (wrap64 (t104 + 1)))) (Int.tmod (wrap64 (x4)) (wrap64 (t104 + 1)))))) (wrap64 ((wrap64 ((wrap64 ((wrap64 ((Int.tmod (wrap64 (x2)) (wrap64 (t104 + 1))) + (Int.tmod (wrap64 (x3)) (wrap64 (t104 + 1))))) + (Int.tmod (wrap64 (x4)) (wrap64 (t104 + 1))))) - (mn (mn (Int.tmod (wrap64 (x2)) (wrap64 (t104 + 1))) (Int.tmod (wrap64 (x3)) (wrap64 (t104 + 1)))) (Int.tmod (wrap64 (x4)) (wrap64 (t104 + 1)))))) - (mx (mx (Int.tmod (wrap64 (x2)) (wrap64 (t104 + 1))) (Int.tmod (wrap64 (x3)) (wrap64 (t104 + 1)))) (Int.tmod (wrap64 (x4)) (wrap64 (t104 + 1))))))).bind fun bt117 => (if bt105.2.2 = 0 then (if bt109.2.2 = 0 then (if bt113.2.2 = 0 then (if bt117.2.2 = 0 then (if (!(bt117.1 == 0) || (!(bt117.2.1 == 0))) = true then (cottonpadlaw04_BurnClosed.j1 k x1 x11 t104 (wrap64 ((wrap64 ((wrap64 ((wrap64 ((Int.tmod (wrap64 (x2)) (wrap64 (t104 + 1))) + (Int.tmod (wrap64 (x3)) (wrap64 (t104 + 1))))) + (Int.tmod (wrap64 (x4)) (wrap64 (t104 + 1))))) - (mn (mn (Int.tmod (wrap64 (x2)) (wrap64 (t104 + 1))) (Int.tmod (wrap64 (x3)) (wrap64 (t104 + 1)))) (Int.tmod (wrap64 (x4)) (wrap64 (t104 + 1)))))) - (mx (mx (Int.tmod (wrap64 (x2)) (wrap64 (t104 + 1))) (Int.tmod (wrap64 (x3)) (wrap64 (t104 + 1)))) (Int.tmod (wrap64 (x4)) (wrap64 (t104 + 1)))))) true x102000 x102001 x102002 x102003 x102004 x102005 x102006 x102007 x102008 bt105.1 bt105.2.1 bt109.1 bt109.2.1 bt113.1 bt113.2.1) else (if bt113.1 < (wrap64 (bt105.1 + bt109.1)) then (cottonpadlaw04_BurnClosed.j1 k x1 x11 t104 (wrap64 ((wrap64 ((wrap64 ((wrap64 ((Int.tmod (wrap64 (x2)) (wrap64 (t104 + 1))) + (Int.tmod (wrap64 (x3)) (wrap64 (t104 + 1))))) + (Int.tmod (wrap64 (x4)) (wrap64 (t104 + 1))))) - (mn (mn (Int.tmod (wrap64 (x2)) (wrap64 (t104 + 1))) (Int.tmod (wrap64 (x3)) (wrap64 (t104 + 1)))) (Int.tmod (wrap64 (x4)) (wrap64 (t104 + 1)))))) - (mx (mx (Int.tmod (wrap64 (x2)) (wrap64 (t104 + 1))) (Int.tmod (wrap64 (x3)) (wrap64 (t104 + 1)))) (Int.tmod (wrap64 (x4)) (wrap64 (t104 + 1)))))) true x102000 x102001 x102002 x102003 x102004 x102005 x102006 x102007 x102008 bt105.1 bt105.2.1 bt109.1 bt109.2.1 bt113.1 bt113.2.1) else (cottonpadlaw04_BurnClosed.j1 k x1 x11 t104 (wrap64 ((wrap64 ((wrap64 ((wrap64 ((Int.tmod (wrap64 (x2)) (wrap64 (t104 + 1))) + (Int.tmod (wrap64 (x3)) (wrap64 (t104 + 1))))) + (Int.tmod (wrap64 (x4)) (wrap64 (t104 + 1))))) - (mn (mn (Int.tmod (wrap64 (x2)) (wrap64 (t104 + 1))) (Int.tmod (wrap64 (x3)) (wrap64 (t104 + 1)))) (Int.tmod (wrap64 (x4)) (wrap64 (t104 + 1)))))) - (mx (mx (Int.tmod (wrap64 (x2)) (wrap64 (t104 + 1))) (Int.tmod (wrap64 (x3)) (wrap64 (t104 + 1)))) (Int.tmod (wrap64 (x4)) (wrap64 (t104 + 1)))))) (decide (bt113.2.1 > (wrap64 (bt105.2.1 + bt109.2.1)))) x102000 x102001 x102002 x102003 x102004 x102005 x102006 x102007 x102008 bt105.1 bt105.2.1 bt109.1 bt109.2.1 bt113.1 bt113.2.1))) else (cottonpadlaw04_BurnClosed.j1 k x1 x11 t104 (wrap64 ((wrap64 ((wrap64 ((wrap64 ((Int.tmod (wrap64 (x2)) (wrap64 (t104 + 1))) + (Int.tmod (wrap64 (x3)) (wrap64 (t104 + 1))))) + (Int.tmod (wrap64 (x4)) (wrap64 (t104 + 1))))) - (mn (mn (Int.tmod (wrap64 (x2)) (wrap64 (t104 + 1))) (Int.tmod (wrap64 (x3)) (wrap64 (t104 + 1)))) (Int.tmod (wrap64 (x4)) (wrap64 (t104 + 1)))))) - (mx (mx (Int.tmod (wrap64 (x2)) (wrap64 (t104 + 1))) (Int.tmod (wrap64 (x3)) (wrap64 (t104 + 1)))) (Int.tmod (wrap64 (x4)) (wrap64 (t104 + 1)))))) true x102000 x102001 x102002 x102003 x102004 x102005 x102006 x102007 x102008 bt105.1 bt105.2.1 bt109.1 bt109.2.1 bt113.1 bt113.2.1)) else (cottonpadlaw04_BurnClosed.j1 k x1 x11 t104 (wrap64 ((wrap64 ((wrap64 ((wrap64 ((Int.tmod (wrap64 (x2)) (wrap64 (t104 + 1))) + (Int.tmod (wrap64 (x3)) (wrap64 (t104 + 1))))) + (Int.tmod (wrap64 (x4)) (wrap64 (t104 + 1))))) - (mn (mn (Int.tmod (wrap64 (x2)) (wrap64 (t104 + 1))) (Int.tmod (wrap64 (x3)) (wrap64 (t104 + 1)))) (Int.tmod (wrap64 (x4)) (wrap64 (t104 + 1)))))) - (mx (mx (Int.tmod (wrap64 (x2)) (wrap64 (t104 + 1))) (Int.tmod (wrap64 (x3)) (wrap64 (t104 + 1)))) (Int.tmod (wrap64 (x4)) (wrap64 (t104 + 1)))))) true x102000 x102001 x102002 x102003 x102004 x102005 x102006 x102007 x102008 bt105.1 bt105.2.1 bt109.1 bt109.2.1 bt113.1 bt113.2.1)) else (cottonpadlaw04_BurnClosed.j1 k x1 x11 t104 (wrap64 ((wrap64 ((wrap64 ((wrap64 ((Int.tmod (wrap64 (x2)) (wrap64 (t104 + 1))) + (Int.tmod (wrap64 (x3)) (wrap64 (t104 + 1))))) + (Int.tmod (wrap64 (x4)) (wrap64 (t104 + 1))))) - (mn (mn (Int.tmod (wrap64 (x2)) (wrap64 (t104 + 1))) (Int.tmod (wrap64 (x3)) (wrap64 (t104 + 1)))) (Int.tmod (wrap64 (x4)) (wrap64 (t104 + 1)))))) - (mx (mx (Int.tmod (wrap64 (x2)) (wrap64 (t104 + 1))) (Int.tmod (wrap64 (x3)) (wrap64 (t104 + 1)))) (Int.tmod (wrap64 (x4)) (wrap64 (t104 + 1)))))) true x102000 x102001 x102002 x102003 x102004 x102005 x102006 x102007 x102008 bt105.1 bt105.2.1 bt109.1 bt109.2.1 bt113.1 bt113.2.1)) else (cottonpadlaw04_BurnClosed.j1 k x1 x11 t104 (wrap64 ((wrap64 ((wrap64 ((wrap64 ((Int.tmod (wrap64 (x2)) (wrap64 (t104 + 1))) + (Int.tmod (wrap64 (x3)) (wrap64 (t104 + 1))))) + (Int.tmod (wrap64 (x4)) (wrap64 (t104 + 1))))) - (mn (mn (Int.tmod (wrap64 (x2)) (wrap64 (t104 + 1))) (Int.tmod (wrap64 (x3)) (wrap64 (t104 + 1)))) (Int.tmod (wrap64 (x4)) (wrap64 (t104 + 1)))))) - (mx (mx (Int.tmod (wrap64 (x2)) (wrap64 (t104 + 1))) (Int.tmod (wrap64 (x3)) (wrap64 (t104 + 1)))) (Int.tmod (wrap64 (x4)) (wrap64 (t104 + 1)))))) true x102000 x102001 x102002 x102003 x102004 x102005 x102006 x102007 x102008 bt105.1 bt105.2.1 bt109.1 bt109.2.1 bt113.1 bt113.2.1))))))))
def cottonpadlaw04_BurnClosed.j1 : Nat → List Int → Bool → Int → Int → Bool → Int → Int → Int → Int → Int → Int → Int → Int → Int → Int → Int → Int → Int → Int → Int → Option (Bool)
 | 0, _, _, _, _, _, _, _, _, _, _, _, _, _, _, _, _, _, _, _, _ => none
 | k + 1, x1, x11, x12, x18, x146, x102000, x102001, x102002, x102003, x102004, x102005, x102006, x102007, x102008, x109000, x109001, x113000, x113001, x117000, x117001 => if x146 = true then (none) else (if x102006 = x102007 then ((cottonpadlaw04_span.f (wrap64 (x109000 + x113000)) (wrap64 (x109001 + x113001))).bind fun bt121 => (cottonpadlaw04_BurnClosed.j2 k x1 x11 x12 x18 (!(x117000 == bt121.1) || (!(x117001 == bt121.2))) x102000 x102001 x102002 x102003 x102004 x102005 x102006 x102007 x102008)) else (cottonpadlaw04_BurnClosed.j2 k x1 x11 x12 x18 false x102000 x102001 x102002 x102003 x102004 x102005 x102006 x102007 x102008))
def cottonpadlaw04_BurnClosed.j2 : Nat → List Int → Bool → Int → Int → Bool → Int → Int → Int → Int → Int → Int → Int → Int → Int → Option (Bool)
 | 0, _, _, _, _, _, _, _, _, _, _, _, _, _, _ => none
 | k + 1, x1, x11, x12, x18, x168, x102000, x102001, x102002, x102003, x102004, x102005, x102006, x102007, x102008 => if x168 = true then (none) else (if x18 = x12 then (some x11) else ((burn_Heat.f k x102000 x102001 x102002 x102003 x102004 x102005 x102006 x102007 x102008 x1 x18).bind fun bt123 => ((burn_Sum.f k x102000 x102001 x102002 x102003 x102004 x102005 x102006 x102007 x102008 x1 x18 (wrap64 (x18 + 1))).bind fun bt127 => (if x11 = true then (if bt123.2.2 = 0 then (if bt127.2.2 = 0 then (some (bt123.1 == bt127.1 && (bt123.2.1 == bt127.2.1))) else (none)) else (none)) else (none)))))
end
def cottonpadlaw04_BurnClosed.f (k : Nat) (a0_0 : Int) (a0_1 : Int) (a0_2 : Int) (a0_3 : Int) (a0_4 : Int) (a0_5 : Int) (a0_6 : Int) (a0_7 : Int) (a0_8 : Int) (l1 : List Int) (a2 : Int) (a3 : Int) (a4 : Int) : Option (Bool) := (cottonpadlaw04_alive.f k).bind fun t102 => ((cottonpadlaw04_ready.f k a0_0 a0_1 a0_2 a0_3 a0_4 a0_5 a0_6 a0_7 a0_8 l1).bind fun t103 => (if t103 = true then (cottonpadlaw04_BurnClosed.j0 k l1 a2 a3 a4 t102 (!t102) a0_0 a0_1 a0_2 a0_3 a0_4 a0_5 a0_6 a0_7 a0_8) else (cottonpadlaw04_BurnClosed.j0 k l1 a2 a3 a4 t102 true a0_0 a0_1 a0_2 a0_3 a0_4 a0_5 a0_6 a0_7 a0_8)))
theorem cottonpadlaw04_BurnClosed.mono_l : ∀ k, (∀ y0 y1 y2 y3 y4 y5 y6 y7 y8 y9 y10 y11 y12 y13 y14, LeO (cottonpadlaw04_BurnClosed.j0 k y0 y1 y2 y3 y4 y5 y6 y7 y8 y9 y10 y11 y12 y13 y14) (cottonpadlaw04_BurnClosed.j0 (k + 1) y0 y1 y2 y3 y4 y5 y6 y7 y8 y9 y10 y11 y12 y13 y14)) ∧ (∀ y0 y1 y2 y3 y4 y5 y6 y7 y8 y9 y10 y11 y12 y13 y14 y15 y16 y17 y18 y19, LeO (cottonpadlaw04_BurnClosed.j1 k y0 y1 y2 y3 y4 y5 y6 y7 y8 y9 y10 y11 y12 y13 y14 y15 y16 y17 y18 y19) (cottonpadlaw04_BurnClosed.j1 (k + 1) y0 y1 y2 y3 y4 y5 y6 y7 y8 y9 y10 y11 y12 y13 y14 y15 y16 y17 y18 y19)) ∧ (∀ y0 y1 y2 y3 y4 y5 y6 y7 y8 y9 y10 y11 y12 y13, LeO (cottonpadlaw04_BurnClosed.j2 k y0 y1 y2 y3 y4 y5 y6 y7 y8 y9 y10 y11 y12 y13) (cottonpadlaw04_BurnClosed.j2 (k + 1) y0 y1 y2 y3 y4 y5 y6 y7 y8 y9 y10 y11 y12 y13))
 | 0 => ⟨fun _ _ _ _ _ _ _ _ _ _ _ _ _ _ _ r h => by simp [cottonpadlaw04_BurnClosed.j0] at h, fun _ _ _ _ _ _ _ _ _ _ _ _ _ _ _ _ _ _ _ _ r h => by simp [cottonpadlaw04_BurnClosed.j1] at h, fun _ _ _ _ _ _ _ _ _ _ _ _ _ _ r h => by simp [cottonpadlaw04_BurnClosed.j2] at h⟩
 | k + 1 => by
  obtain ⟨ih0, ih1, ih2⟩ := cottonpadlaw04_BurnClosed.mono_l k
  refine ⟨?_, ?_, ?_⟩
  ·
   intro y0 y1 y2 y3 y4 y5 y6 y7 y8 y9 y10 y11 y12 y13 y14
   unfold cottonpadlaw04_BurnClosed.j0
   repeat' first
   | (with_reducible exact ih0 _ _ _ _ _ _ _ _ _ _ _ _ _ _ _)
   | (with_reducible exact ih1 _ _ _ _ _ _ _ _ _ _ _ _ _ _ _ _ _ _ _ _)
   | (with_reducible exact ih2 _ _ _ _ _ _ _ _ _ _ _ _ _ _)
   | (with_reducible exact burn_Heat.mono _ _ _ _ _ _ _ _ _ _ _ _)
   | (with_reducible exact burn_Sum.mono _ _ _ _ _ _ _ _ _ _ _ _ _)
   | (with_reducible exact cottonpadlaw04_alive.mono _)
   | (with_reducible exact cottonpadlaw04_ready.mono _ _ _ _ _ _ _ _ _ _ _)
   | (with_reducible exact LeO.refl _)
   | (with_reducible exact LeO.none _)
   | (with_reducible refine LeO.ite ?_ ?_)
   | (with_reducible refine LeO.bind ?_ (fun _ => ?_))
   | exact ih0 _ _ _ _ _ _ _ _ _ _ _ _ _ _ _
   | exact ih1 _ _ _ _ _ _ _ _ _ _ _ _ _ _ _ _ _ _ _ _
   | exact ih2 _ _ _ _ _ _ _ _ _ _ _ _ _ _
   | exact burn_Heat.mono _ _ _ _ _ _ _ _ _ _ _ _
   | exact burn_Sum.mono _ _ _ _ _ _ _ _ _ _ _ _ _
   | exact cottonpadlaw04_alive.mono _
   | exact cottonpadlaw04_ready.mono _ _ _ _ _ _ _ _ _ _ _
   | exact LeO.none _
   | refine LeO.ite ?_ ?_
   | refine LeO.bind ?_ (fun _ => ?_)
  ·
   intro y0 y1 y2 y3 y4 y5 y6 y7 y8 y9 y10 y11 y12 y13 y14 y15 y16 y17 y18 y19
   unfold cottonpadlaw04_BurnClosed.j1
   repeat' first
   | (with_reducible exact ih0 _ _ _ _ _ _ _ _ _ _ _ _ _ _ _)
   | (with_reducible exact ih1 _ _ _ _ _ _ _ _ _ _ _ _ _ _ _ _ _ _ _ _)
   | (with_reducible exact ih2 _ _ _ _ _ _ _ _ _ _ _ _ _ _)
   | (with_reducible exact burn_Heat.mono _ _ _ _ _ _ _ _ _ _ _ _)
   | (with_reducible exact burn_Sum.mono _ _ _ _ _ _ _ _ _ _ _ _ _)
   | (with_reducible exact cottonpadlaw04_alive.mono _)
   | (with_reducible exact cottonpadlaw04_ready.mono _ _ _ _ _ _ _ _ _ _ _)
   | (with_reducible exact LeO.refl _)
   | (with_reducible exact LeO.none _)
   | (with_reducible refine LeO.ite ?_ ?_)
   | (with_reducible refine LeO.bind ?_ (fun _ => ?_))
   | exact ih0 _ _ _ _ _ _ _ _ _ _ _ _ _ _ _
   | exact ih1 _ _ _ _ _ _ _ _ _ _ _ _ _ _ _ _ _ _ _ _
   | exact ih2 _ _ _ _ _ _ _ _ _ _ _ _ _ _
   | exact burn_Heat.mono _ _ _ _ _ _ _ _ _ _ _ _
   | exact burn_Sum.mono _ _ _ _ _ _ _ _ _ _ _ _ _
   | exact cottonpadlaw04_alive.mono _
   | exact cottonpadlaw04_ready.mono _ _ _ _ _ _ _ _ _ _ _
   | exact LeO.none _
   | refine LeO.ite ?_ ?_
   | refine LeO.bind ?_ (fun _ => ?_)
  ·
   intro y0 y1 y2 y3 y4 y5 y6 y7 y8 y9 y10 y11 y12 y13
   unfold cottonpadlaw04_BurnClosed.j2
   repeat' first
   | (with_reducible exact ih0 _ _ _ _ _ _ _ _ _ _ _ _ _ _ _)
   | (with_reducible exact ih1 _ _ _ _ _ _ _ _ _ _ _ _ _ _ _ _ _ _ _ _)
   | (with_reducible exact ih2 _ _ _ _ _ _ _ _ _ _ _ _ _ _)
   | (with_reducible exact burn_Heat.mono _ _ _ _ _ _ _ _ _ _ _ _)
   | (with_reducible exact burn_Sum.mono _ _ _ _ _ _ _ _ _ _ _ _ _)
   | (with_reducible exact cottonpadlaw04_alive.mono _)
   | (with_reducible exact cottonpadlaw04_ready.mono _ _ _ _ _ _ _ _ _ _ _)
   | (with_reducible exact LeO.refl _)
   | (with_reducible exact LeO.none _)
   | (with_reducible refine LeO.ite ?_ ?_)
   | (with_reducible refine LeO.bind ?_ (fun _ => ?_))
   | exact ih0 _ _ _ _ _ _ _ _ _ _ _ _ _ _ _
   | exact ih1 _ _ _ _ _ _ _ _ _ _ _ _ _ _ _ _ _ _ _ _
   | exact ih2 _ _ _ _ _ _ _ _ _ _ _ _ _ _
   | exact burn_Heat.mono _ _ _ _ _ _ _ _ _ _ _ _
   | exact burn_Sum.mono _ _ _ _ _ _ _ _ _ _ _ _ _
   | exact cottonpadlaw04_alive.mono _
   | exact cottonpadlaw04_ready.mono _ _ _ _ _ _ _ _ _ _ _
   | exact LeO.none _
   | refine LeO.ite ?_ ?_
   | refine LeO.bind ?_ (fun _ => ?_)
theorem cottonpadlaw04_BurnClosed.mono : ∀ a0 a1 a2 a3 a4 a5 a6 a7 a8 a9 a10 a11 a12 k, LeO (cottonpadlaw04_BurnClosed.f k a0 a1 a2 a3 a4 a5 a6 a7 a8 a9 a10 a11 a12) (cottonpadlaw04_BurnClosed.f (k + 1) a0 a1 a2 a3 a4 a5 a6 a7 a8 a9 a10 a11 a12) := by
 intro a0 a1 a2 a3 a4 a5 a6 a7 a8 a9 a10 a11 a12 k
 obtain ⟨ih0, ih1, ih2⟩ := cottonpadlaw04_BurnClosed.mono_l k
 unfold cottonpadlaw04_BurnClosed.f
 repeat' first
   | (with_reducible exact ih0 _ _ _ _ _ _ _ _ _ _ _ _ _ _ _)
   | (with_reducible exact ih1 _ _ _ _ _ _ _ _ _ _ _ _ _ _ _ _ _ _ _ _)
   | (with_reducible exact ih2 _ _ _ _ _ _ _ _ _ _ _ _ _ _)
   | (with_reducible exact burn_Heat.mono _ _ _ _ _ _ _ _ _ _ _ _)
   | (with_reducible exact burn_Sum.mono _ _ _ _ _ _ _ _ _ _ _ _ _)
   | (with_reducible exact cottonpadlaw04_alive.mono _)
   | (with_reducible exact cottonpadlaw04_ready.mono _ _ _ _ _ _ _ _ _ _ _)
   | (with_reducible exact LeO.refl _)
   | (with_reducible exact LeO.none _)
   | (with_reducible refine LeO.ite ?_ ?_)
   | (with_reducible refine LeO.bind ?_ (fun _ => ?_))
   | exact ih0 _ _ _ _ _ _ _ _ _ _ _ _ _ _ _
   | exact ih1 _ _ _ _ _ _ _ _ _ _ _ _ _ _ _ _ _ _ _ _
   | exact ih2 _ _ _ _ _ _ _ _ _ _ _ _ _ _
   | exact burn_Heat.mono _ _ _ _ _ _ _ _ _ _ _ _
   | exact burn_Sum.mono _ _ _ _ _ _ _ _ _ _ _ _ _
   | exact cottonpadlaw04_alive.mono _
   | exact cottonpadlaw04_ready.mono _ _ _ _ _ _ _ _ _ _ _
   | exact LeO.none _
   | refine LeO.ite ?_ ?_
   | refine LeO.bind ?_ (fun _ => ?_)
def cottonpadlaw04_BurnClosed.T5 : Bool × List (List Nat × List Nat) := (true, [([], []), ([0], [0]), ([], []), ([2], [2]), ([1, 3], [1, 3]), ([], []), ([5], [5]), ([], []), ([7], [7]), ([6, 8], [6, 8]), ([], []), ([10], [10]), ([], []), ([12], [12]), ([11, 13], [11, 13]), ([4, 0, 1, 2, 3, 4], [4]), ([9, 15, 0, 1, 2, 3, 4, 5, 6, 7, 8, 9, 15], [9]), ([14, 16, 0, 1, 2, 3, 4, 5, 6, 7, 8, 9, 10, 11, 12, 13, 14, 15, 16], [14])])
def cottonpadlaw04_BurnClosed.B5 : List Nat := [0, 1, 0, 4, 15, 0, 32, 0, 128, 480, 0, 1024, 0, 4096, 15360, 31, 33791, 131071]
theorem cottonpadlaw04_BurnClosed.tab5 : rtab .any (opsOf Tryd.f7 5) = cottonpadlaw04_BurnClosed.T5 := by kernel_rfl
theorem cottonpadlaw04_BurnClosed.bits5 : waitsOk cottonpadlaw04_BurnClosed.T5.2 cottonpadlaw04_BurnClosed.B5 = true := by kernel_rfl
def cottonpadlaw04_BurnClosed.T14 : Bool × List (List Nat × List Nat) := (true, [([], []), ([0], [0]), ([1], [1]), ([], []), ([3], [3]), ([4], [4]), ([2, 5], [2, 5]), ([6], [6]), ([7], [7]), ([7], [7]), ([9, 7], [7, 9]), ([7], [7]), ([11, 7], [7, 11]), ([10, 12, 7], [7, 10, 12]), ([7], [7]), ([14, 7], [7, 14]), ([7], [7]), ([16, 7], [7, 16]), ([15, 17, 7], [7, 15, 17]), ([13, 18, 7, 7], [7, 13, 18]), ([8, 19, 7], [7, 8, 19]), ([7, 20], [7, 20])])
def cottonpadlaw04_BurnClosed.B14 : List Nat := [0, 1, 3, 0, 8, 24, 63, 127, 255, 255, 767, 255, 2303, 7935, 255, 16639, 255, 65791, 246015, 524031, 1048575, 2097151]
theorem cottonpadlaw04_BurnClosed.tab14 : rtab .any (opsOf Tryd.f7 14) = cottonpadlaw04_BurnClosed.T14 := by kernel_rfl
theorem cottonpadlaw04_BurnClosed.bits14 : waitsOk cottonpadlaw04_BurnClosed.T14.2 cottonpadlaw04_BurnClosed.B14 = true := by kernel_rfl
set_option maxHeartbeats 8000000 in
set_option maxRecDepth 100000 in
theorem cottonpadlaw04_BurnClosed.calls (k : Nat) (a0_0 : Int) (a0_1 : Int) (a0_2 : Int) (a0_3 : Int) (a0_4 : Int) (a0_5 : Int) (a0_6 : Int) (a0_7 : Int) (a0_8 : Int) (A1 : Option Addr) (c1 : Nat) (l1 : List Int) (a2 : Int) (a3 : Int) (a4 : Int) (r : Bool) (w : World) (hr1 : Kd.C (Kd.int .i64) w A1 l1.length l1) (hc1 : l1.length ≤ c1) (hG : GlobOK w) (h : cottonpadlaw04_BurnClosed.f k a0_0 a0_1 a0_2 a0_3 a0_4 a0_5 a0_6 a0_7 a0_8 l1 a2 a3 a4 = some r) :
  Calls Tryd.prog 7 #[.agg #[.int .i64 a0_0, .int .i64 a0_1, .int .i64 a0_2, .int .i64 a0_3, .int .i64 a0_4, .int .i64 a0_5, .int .i64 a0_6, .int .i64 a0_7, .int .i64 a0_8], .slice A1 l1.length c1, .int .u8 a2, .int .u8 a3, .int .u8 a4] w fun e w' => e = .returned (.bool r) ∧ Below w.heap.size w w' := by
 have hu25 := Tryd.underlying25
 have hu23 := Tryd.underlying23
 have HG := A_ hG
 clear hG
 have HR1 := A_ hr1
 have HC1 := A_ hc1
 clear hr1 hc1
 have HB := A_ (Below.refl w.heap.size w)
 have H : ((cottonpadlaw04_alive.f k).bind fun t102 => ((cottonpadlaw04_ready.f k a0_0 a0_1 a0_2 a0_3 a0_4 a0_5 a0_6 a0_7 a0_8 l1).bind fun t103 => (if t103 = true then (cottonpadlaw04_BurnClosed.j0 k l1 a2 a3 a4 t102 (!t102) a0_0 a0_1 a0_2 a0_3 a0_4 a0_5 a0_6 a0_7 a0_8) else (cottonpadlaw04_BurnClosed.j0 k l1 a2 a3 a4 t102 true a0_0 a0_1 a0_2 a0_3 a0_4 a0_5 a0_6 a0_7 a0_8)))) = some r := h
 clear h
 replace H := Option.bind_eq_some_iff.mp H
 obtain ⟨t102, A60, H⟩ := H
 try dsimp only at H
 have A6 := A_ A60
 clear A60
 have HC7 := A_ H
 clear H
 go_enter Tryd.func7, Tryd.ntmps7
 go_upto_region 2 with (first | ((with_reducible refine gate_dst (N := 5) rfl ?_); refine box_event ?hg (N := 5) ?hd (cs := #[.int .i64 a0_0, .int .i64 a0_1, .int .i64 a0_2, .int .i64 a0_3, .int .i64 a0_4, .int .i64 a0_5, .int .i64 a0_6, .int .i64 a0_7, .int .i64 a0_8]) (t := 25) ?hr ?_; (case hd => rfl); (case hg => rfl); (case hr => first | (go_simp; done) | (go_simp; rfl)); intro gb101 hg w8 hbox hb; have n0_ := A_ (below_step (by repeat (first | (with_reducible first | exact HB.out | apply below_alloc | apply pw_below_drewN | apply below_drew1) | exact HB.out)) hb); have n1_ := A_ (hbox); have n2_ := A_ ((by rw [hg]; exact (below_size (by repeat (first | (with_reducible first | exact HB.out | apply below_alloc | apply pw_below_drewN | apply below_drew1) | exact HB.out))) : w.heap.size ≤ gb101)); have n3_ := A_ ((by rw [hg]; exact (below_size (by repeat (first | (with_reducible first | exact HB.out | apply below_alloc | apply pw_below_drewN | apply below_drew1) | exact HB.out))) : w.heap.size ≤ gb101)); clear HB; have HB := n0_; have BK101 := n1_; have GW101 := n2_; have GE101 := n3_; clear n0_ n1_ n2_ n3_; clear hb hbox hg) | ((with_reducible refine gate_callee (f := 21) rfl ?_); refine goesL_ (some 31) rfl rfl Tryd.func21 (by kernel_rfl) rfl #[] rfl (by (try simp only [List.map_toArray, List.map_cons, List.map_nil]); first | done | rfl | (simp only [List.length_drop, List.length_take]; rfl)) ?_; (with_reducible refine (cottonpadlaw04_alive.calls k  t102 _ ?side1 A6.out).mono ?_); (case side1 => exact GlobOK.below HG.out (by repeat (first | (with_reducible first | exact HB.out | apply below_alloc | apply pw_below_drewN | apply below_drew1 | refine below_set ?_ GE101.out) | exact HB.out))); rintro e w9 ⟨rfl, hb⟩; refine ⟨_, rfl, ?_⟩; have n0_ := bb_ BK101.out hb; have n1_ := A_ (below_step (by repeat (first | (with_reducible first | exact HB.out | apply below_alloc | apply pw_below_drewN | apply below_drew1 | refine below_set ?_ GE101.out) | exact HB.out)) hb); clear BK101; clear HB; have BK101 := n0_; have HB := n1_; clear n0_ n1_; (try clear hb); (try clear hb2); (try clear hk); (try clear hi)))
 (try simp only [Act.put, List.setIfInBounds_toArray, List.set_cons_zero, List.set_cons_succ])
 go_cut [39] (fun v39 wc => ∃ (kq : Nat) (x39_6 : Bool), v39 = .bool x39_6 ∧ Aside0 (cottonpadlaw04_BurnClosed.j0 kq l1 a2 a3 a4 t102 x39_6 a0_0 a0_1 a0_2 a0_3 a0_4 a0_5 a0_6 a0_7 a0_8 = some r) ∧ Aside0 (kq ≤ k) ∧ Aside0 (wc.heap[gb101]? = some (.cells #[.int .i64 a0_0, .int .i64 a0_1, .int .i64 a0_2, .int .i64 a0_3, .int .i64 a0_4, .int .i64 a0_5, .int .i64 a0_6, .int .i64 a0_7, .int .i64 a0_8] 25 (0, 0))) ∧ Aside0 (Below w.heap.size w wc))
 case first =>
  have H := HC7.out
  clear HC7
  replace H := Option.bind_eq_some_iff.mp H
  obtain ⟨t103, A100, H⟩ := H
  try dsimp only at H
  have A10 := A_ A100
  clear A100
  by_cases c11 : t103 = true
  ·
   subst c11
   have H1 : (cottonpadlaw04_BurnClosed.j0 k l1 a2 a3 a4 t102 (!t102) a0_0 a0_1 a0_2 a0_3 a0_4 a0_5 a0_6 a0_7 a0_8) = some r := by rw [if_pos rfl] at H; exact H
   clear H
   have H := H1
   clear H1
   have H' := A_ H
   clear H
   have hcz12_0 : w9.cell? ⟨gb101, 0, none⟩ = some (.int .i64 a0_0) := (blk_cell BK101.out 0).trans rfl
   have hcz12_1 : w9.cell? ⟨gb101, 1, none⟩ = some (.int .i64 a0_1) := (blk_cell BK101.out 1).trans rfl
   have hcz12_2 : w9.cell? ⟨gb101, 2, none⟩ = some (.int .i64 a0_2) := (blk_cell BK101.out 2).trans rfl
   have hcz12_3 : w9.cell? ⟨gb101, 3, none⟩ = some (.int .i64 a0_3) := (blk_cell BK101.out 3).trans rfl
   have hcz12_4 : w9.cell? ⟨gb101, 4, none⟩ = some (.int .i64 a0_4) := (blk_cell BK101.out 4).trans rfl
   have hcz12_5 : w9.cell? ⟨gb101, 5, none⟩ = some (.int .i64 a0_5) := (blk_cell BK101.out 5).trans rfl
   have hcz12_6 : w9.cell? ⟨gb101, 6, none⟩ = some (.int .i64 a0_6) := (blk_cell BK101.out 6).trans rfl
   have hcz12_7 : w9.cell? ⟨gb101, 7, none⟩ = some (.int .i64 a0_7) := (blk_cell BK101.out 7).trans rfl
   have hcz12_8 : w9.cell? ⟨gb101, 8, none⟩ = some (.int .i64 a0_8) := (blk_cell BK101.out 8).trans rfl
   have hfz12_0 := blk_frozen BK101.out 0
   have hfz12_1 := blk_frozen BK101.out 1
   have hfz12_2 := blk_frozen BK101.out 2
   have hfz12_3 := blk_frozen BK101.out 3
   have hfz12_4 := blk_frozen BK101.out 4
   have hfz12_5 := blk_frozen BK101.out 5
   have hfz12_6 := blk_frozen BK101.out 6
   have hfz12_7 := blk_frozen BK101.out 7
   have hfz12_8 := blk_frozen BK101.out 8
   go_wp2_with (first | ((with_reducible refine gate_callee (f := 31) rfl ?_); refine goesL_ (some 34) rfl rfl Tryd.func31 (by kernel_rfl) rfl #[.agg #[.int .i64 a0_0, .int .i64 a0_1, .int .i64 a0_2, .int .i64 a0_3, .int .i64 a0_4, .int .i64 a0_5, .int .i64 a0_6, .int .i64 a0_7, .int .i64 a0_8], .slice A1 l1.length c1] rfl (by (try simp only [List.map_toArray, List.map_cons, List.map_nil]); first | done | rfl | (simp only [List.length_drop, List.length_take]; rfl)) ?_; (with_reducible refine (cottonpadlaw04_ready.calls k a0_0 a0_1 a0_2 a0_3 a0_4 a0_5 a0_6 a0_7 a0_8 _ _ l1 true _ ?side1 ?side2 A10.out).mono ?_); (case side1 => repeat (first | exact (Kd.C_below HR1.out HB.out) | (with_reducible refine Kd.C_alloc ?_ _) | (with_reducible refine Kd.C_drewN ?_ _) | (with_reducible refine Kd.C_drew ?_))); (case side2 => exact HC1.out); rintro e w13 ⟨rfl, hb⟩; refine ⟨_, rfl, ?_⟩; have n0_ := bb_ BK101.out hb; have n1_ := A_ (below_step (by repeat (first | (with_reducible first | exact HB.out | apply below_alloc | apply pw_below_drewN | apply below_drew1 | refine below_set ?_ GE101.out) | exact HB.out)) hb); clear BK101; clear HB; have BK101 := n0_; have HB := n1_; clear n0_ n1_; (try clear hb); (try clear hb2); (try clear hk); (try clear hi)))
   go_meet
   case rel => exact ⟨_, (!t102), (by first | rfl | (simp; done) | (simp [*]; done)), H', ⟨by first | omega | exact Nat.le_refl _⟩, ⟨by (with_reducible repeat (first | refine blk_drewN ?_ _ | refine blk_drew ?_ | refine blk_alloc ?_ _)); exact BK101.out⟩, ⟨by repeat (first | (with_reducible first | exact HB.out | apply below_alloc | apply pw_below_drewN | apply below_drew1 | refine below_set ?_ GE101.out) | exact HB.out)⟩⟩
  ·
   replace c11 := Bool.eq_false_iff.mpr c11
   subst c11
   have H1 : (cottonpadlaw04_BurnClosed.j0 k l1 a2 a3 a4 t102 true a0_0 a0_1 a0_2 a0_3 a0_4 a0_5 a0_6 a0_7 a0_8) = some r := by rw [if_neg (show ¬ (false = true) by decide)] at H; exact H
   clear H
   have H := H1
   clear H1
   have H' := A_ H
   clear H
   have hcz14_0 : w9.cell? ⟨gb101, 0, none⟩ = some (.int .i64 a0_0) := (blk_cell BK101.out 0).trans rfl
   have hcz14_1 : w9.cell? ⟨gb101, 1, none⟩ = some (.int .i64 a0_1) := (blk_cell BK101.out 1).trans rfl
   have hcz14_2 : w9.cell? ⟨gb101, 2, none⟩ = some (.int .i64 a0_2) := (blk_cell BK101.out 2).trans rfl
   have hcz14_3 : w9.cell? ⟨gb101, 3, none⟩ = some (.int .i64 a0_3) := (blk_cell BK101.out 3).trans rfl
   have hcz14_4 : w9.cell? ⟨gb101, 4, none⟩ = some (.int .i64 a0_4) := (blk_cell BK101.out 4).trans rfl
   have hcz14_5 : w9.cell? ⟨gb101, 5, none⟩ = some (.int .i64 a0_5) := (blk_cell BK101.out 5).trans rfl
   have hcz14_6 : w9.cell? ⟨gb101, 6, none⟩ = some (.int .i64 a0_6) := (blk_cell BK101.out 6).trans rfl
   have hcz14_7 : w9.cell? ⟨gb101, 7, none⟩ = some (.int .i64 a0_7) := (blk_cell BK101.out 7).trans rfl
   have hcz14_8 : w9.cell? ⟨gb101, 8, none⟩ = some (.int .i64 a0_8) := (blk_cell BK101.out 8).trans rfl
   have hfz14_0 := blk_frozen BK101.out 0
   have hfz14_1 := blk_frozen BK101.out 1
   have hfz14_2 := blk_frozen BK101.out 2
   have hfz14_3 := blk_frozen BK101.out 3
   have hfz14_4 := blk_frozen BK101.out 4
   have hfz14_5 := blk_frozen BK101.out 5
   have hfz14_6 := blk_frozen BK101.out 6
   have hfz14_7 := blk_frozen BK101.out 7
   have hfz14_8 := blk_frozen BK101.out 8
   go_wp2_with (first | ((with_reducible refine gate_callee (f := 31) rfl ?_); refine goesL_ (some 34) rfl rfl Tryd.func31 (by kernel_rfl) rfl #[.agg #[.int .i64 a0_0, .int .i64 a0_1, .int .i64 a0_2, .int .i64 a0_3, .int .i64 a0_4, .int .i64 a0_5, .int .i64 a0_6, .int .i64 a0_7, .int .i64 a0_8], .slice A1 l1.length c1] rfl (by (try simp only [List.map_toArray, List.map_cons, List.map_nil]); first | done | rfl | (simp only [List.length_drop, List.length_take]; rfl)) ?_; (with_reducible refine (cottonpadlaw04_ready.calls k a0_0 a0_1 a0_2 a0_3 a0_4 a0_5 a0_6 a0_7 a0_8 _ _ l1 false _ ?side1 ?side2 A10.out).mono ?_); (case side1 => repeat (first | exact (Kd.C_below HR1.out HB.out) | (with_reducible refine Kd.C_alloc ?_ _) | (with_reducible refine Kd.C_drewN ?_ _) | (with_reducible refine Kd.C_drew ?_))); (case side2 => exact HC1.out); rintro e w15 ⟨rfl, hb⟩; refine ⟨_, rfl, ?_⟩; have n0_ := bb_ BK101.out hb; have n1_ := A_ (below_step (by repeat (first | (with_reducible first | exact HB.out | apply below_alloc | apply pw_below_drewN | apply below_drew1 | refine below_set ?_ GE101.out) | exact HB.out)) hb); clear BK101; clear HB; have BK101 := n0_; have HB := n1_; clear n0_ n1_; (try clear hb); (try clear hb2); (try clear hk); (try clear hi)))
   go_meet
   case rel => exact ⟨_, (true), (by first | rfl | (simp; done) | (simp [*]; done)), H', ⟨by first | omega | exact Nat.le_refl _⟩, ⟨by (with_reducible repeat (first | refine blk_drewN ?_ _ | refine blk_drew ?_ | refine blk_alloc ?_ _)); exact BK101.out⟩, ⟨by repeat (first | (with_reducible first | exact HB.out | apply below_alloc | apply pw_below_drewN | apply below_drew1 | refine below_set ?_ GE101.out) | exact HB.out)⟩⟩
 case rest =>
  clear HC7
  try clear c1
  try clear c2
  try clear p2
  try clear c3
  try clear c7
  try clear c11
  try clear hcz12_0
  try clear hcz12_1
  try clear hcz12_2
  try clear hcz12_3
  try clear hcz12_4
  try clear hcz12_5
  try clear hcz12_6
  try clear hcz12_7
  try clear hcz12_8
  try clear hcz14_0
  try clear hcz14_1
  try clear hcz14_2
  try clear hcz14_3
  try clear hcz14_4
  try clear hcz14_5
  try clear hcz14_6
  try clear hcz14_7
  try clear hcz14_8
  try clear hfz12_0
  try clear hfz12_1
  try clear hfz12_2
  try clear hfz12_3
  try clear hfz12_4
  try clear hfz12_5
  try clear hfz12_6
  try clear hfz12_7
  try clear hfz12_8
  try clear hfz14_0
  try clear hfz14_1
  try clear hfz14_2
  try clear hfz14_3
  try clear hfz14_4
  try clear hfz14_5
  try clear hfz14_6
  try clear hfz14_7
  try clear hfz14_8
  obtain ⟨kq, x39_6, rfl, HA, HJ6, BK101, HB⟩ := hcut
  cases kq with
  | zero => exact absurd HA.out (by simp [cottonpadlaw04_BurnClosed.j0])
  | succ kj6 =>
   have H := HA.out
   clear HA
   simp only [cottonpadlaw04_BurnClosed.j0] at H
   by_cases c16 : x39_6 = true
   ·
    subst c16
    have H1 : (some t102) = some r := by rw [if_pos rfl] at H; exact H
    clear H
    have H := H1
    clear H1
    obtain rfl := Option.some.inj H
    go_wp2
    go_ret
    exact ⟨by first | rfl | (simp [errW_none, errW_some] <;> rfl) | (simp [*, errW_none, errW_some] <;> rfl), by repeat (first | (with_reducible first | exact HB.out | apply below_alloc | apply pw_below_drewN | apply below_drew1 | refine below_set ?_ GE101.out) | exact HB.out)⟩
   ·
    replace c16 := Bool.eq_false_iff.mpr c16
    subst c16
    have H1 : ((cottonpadref04_Seconds.f a0_0 a0_1 a0_2 a0_3 a0_4 a0_5 a0_6 a0_7 a0_8 l1).bind fun t104 => (if (wrap64 (t104 + 1)) = 0 then (none) else ((burn_Sum.f kj6 a0_0 a0_1 a0_2 a0_3 a0_4 a0_5 a0_6 a0_7 a0_8 l1 (mn (mn (Int.tmod (wrap64 (a2)) (wrap64 (t104 + 1))) (Int.tmod (wrap64 (a3)) (wrap64 (t104 + 1)))) (Int.tmod (wrap64 (a4)) (wrap64 (t104 + 1)))) (wrap64 ((wrap64 ((wrap64 ((wrap64 ((Int.tmod (wrap64 (a2)) (wrap64 (t104 + 1))) + (Int.tmod (wrap64 (a3)) (wrap64 (t104 + 1))))) + (Int.tmod (wrap64 (a4)) (wrap64 (t104 + 1))))) - (mn (mn (Int.tmod (wrap64 (a2)) (wrap64 (t104 + 1))) (Int.tmod (wrap64 (a3)) (wrap64 (t104 + 1)))) (Int.tmod (wrap64 (a4)) (wrap64 (t104 + 1)))))) - (mx (mx (Int.tmod (wrap64 (a2)) (wrap64 (t104 + 1))) (Int.tmod (wrap64 (a3)) (wrap64 (t104 + 1)))) (Int.tmod (wrap64 (a4)) (wrap64 (t104 + 1))))))).bind fun bt105 => ((burn_Sum.f kj6 a0_0 a0_1 a0_2 a0_3 a0_4 a0_5 a0_6 a0_7 a0_8 l1 (wrap64 ((wrap64 ((wrap64 ((wrap64 ((Int.tmod (wrap64 (a2)) (wrap64 (t104 + 1))) + (Int.tmod (wrap64 (a3)) (wrap64 (t104 + 1))))) + (Int.tmod (wrap64 (a4)) (wrap64 (t104 + 1))))) - (mn (mn (Int.tmod (wrap64 (a2)) (wrap64 (t104 + 1))) (Int.tmod (wrap64 (a3)) (wrap64 (t104 + 1)))) (Int.tmod (wrap64 (a4)) (wrap64 (t104 + 1)))))) - (mx (mx (Int.tmod (wrap64 (a2)) (wrap64 (t104 + 1))) (Int.tmod (wrap64 (a3)) (wrap64 (t104 + 1)))) (Int.tmod (wrap64 (a4)) (wrap64 (t104 + 1)))))) (mx (mx (Int.tmod (wrap64 (a2)) (wrap64 (t104 + 1))) (Int.tmod (wrap64 (a3)) (wrap64 (t104 + 1)))) (Int.tmod (wrap64 (a4)) (wrap64 (t104 + 1))))).bind fun bt109 => ((burn_Sum.f kj6 a0_0 a0_1 a0_2 a0_3 a0_4 a0_5 a0_6 a0_7 a0_8 l1 (mn (mn (Int.tmod (wrap64 (a2)) (wrap64 (t104 + 1))) (Int.tmod (wrap64 (a3)) (wrap64 (t104 + 1)))) (Int.tmod (wrap64 (a4)) (wrap64 (t104 + 1)))) (mx (mx (Int.tmod (wrap64 (a2)) (wrap64 (t104 + 1))) (Int.tmod (wrap64 (a3)) (wrap64 (t104 + 1)))) (Int.tmod (wrap64 (a4)) (wrap64 (t104 + 1))))).bind fun bt113 => ((burn_Sum.f kj6 a0_0 a0_1 a0_2 a0_3 a0_4 a0_5 a0_6 a0_7 a0_8 l1 (wrap64 ((wrap64 ((wrap64 ((wrap64 ((Int.tmod (wrap64 (a2)) (wrap64 (t104 + 1))) + (Int.tmod (wrap64 (a3)) (wrap64 (t104 + 1))))) + (Int.tmod (wrap64 (a4)) (wrap64 (t104 + 1))))) - (mn (mn (Int.tmod (wrap64 (a2)) (wrap64 (t104 + 1))) (Int.tmod (wrap64 (a3)) (wrap64 (t104 + 1)))) (Int.tmod (wrap64 (a4)) (wrap64 (t104 + 1)))))) - (mx (mx (Int.tmod (wrap64 (a2)) (wrap64 (t104 + 1))) (Int.tmod (wrap64 (a3)) (wrap64 (t104 + 1)))) (Int.tmod (wrap64 (a4)) (wrap64 (t104 + 1)))))) (wrap64 ((wrap64 ((wrap64 ((wrap64 ((Int.tmod (wrap64 (a2)) (wrap64 (t104 + 1))) + (Int.tmod (wrap64 (a3)) (wrap64 (t104 + 1))))) + (Int.tmod (wrap64 (a4)) (wrap64 (t104 + 1))))) - (mn (mn (Int.tmod (wrap64 (a2)) (wrap64 (t104 + 1))) (Int.tmod (wrap64 (a3)) (wrap64 (t104 + 1)))) (Int.tmod (wrap64 (a4)) (wrap64 (t104 + 1)))))) - (mx (mx (Int.tmod (wrap64 (a2)) (wrap64 (t104 + 1))) (Int.tmod (wrap64 (a3)) (wrap64 (t104 + 1)))) (Int.tmod (wrap64 (a4)) (wrap64 (t104 + 1))))))).bind fun bt117 => (if bt105.2.2 = 0 then (if bt109.2.2 = 0 then (if bt113.2.2 = 0 then (if bt117.2.2 = 0 then (if (!(bt117.1 == 0) || (!(bt117.2.1 == 0))) = true then (cottonpadlaw04_BurnClosed.j1 kj6 l1 t102 t104 (wrap64 ((wrap64 ((wrap64 ((wrap64 ((Int.tmod (wrap64 (a2)) (wrap64 (t104 + 1))) + (Int.tmod (wrap64 (a3)) (wrap64 (t104 + 1))))) + (Int.tmod (wrap64 (a4)) (wrap64 (t104 + 1))))) - (mn (mn (Int.tmod (wrap64 (a2)) (wrap64 (t104 + 1))) (Int.tmod (wrap64 (a3)) (wrap64 (t104 + 1)))) (Int.tmod (wrap64 (a4)) (wrap64 (t104 + 1)))))) - (mx (mx (Int.tmod (wrap64 (a2)) (wrap64 (t104 + 1))) (Int.tmod (wrap64 (a3)) (wrap64 (t104 + 1)))) (Int.tmod (wrap64 (a4)) (wrap64 (t104 + 1)))))) true a0_0 a0_1 a0_2 a0_3 a0_4 a0_5 a0_6 a0_7 a0_8 bt105.1 bt105.2.1 bt109.1 bt109.2.1 bt113.1 bt113.2.1) else (if bt113.1 < (wrap64 (bt105.1 + bt109.1)) then (cottonpadlaw04_BurnClosed.j1 kj6 l1 t102 t104 (wrap64 ((wrap64 ((wrap64 ((wrap64 ((Int.tmod (wrap64 (a2)) (wrap64 (t104 + 1))) + (Int.tmod (wrap64 (a3)) (wrap64 (t104 + 1))))) + (Int.tmod (wrap64 (a4)) (wrap64 (t104 + 1))))) - (mn (mn (Int.tmod (wrap64 (a2)) (wrap64 (t104 + 1))) (Int.tmod (wrap64 (a3)) (wrap64 (t104 + 1)))) (Int.tmod (wrap64 (a4)) (wrap64 (t104 + 1)))))) - (mx (mx (Int.tmod (wrap64 (a2)) (wrap64 (t104 + 1))) (Int.tmod (wrap64 (a3)) (wrap64 (t104 + 1)))) (Int.tmod (wrap64 (a4)) (wrap64 (t104 + 1)))))) true a0_0 a0_1 a0_2 a0_3 a0_4 a0_5 a0_6 a0_7 a0_8 bt105.1 bt105.2.1 bt109.1 bt109.2.1 bt113.1 bt113.2.1) else (cottonpadlaw04_BurnClosed.j1 kj6 l1 t102 t104 (wrap64 ((wrap64 ((wrap64 ((wrap64 ((Int.tmod (wrap64 (a2)) (wrap64 (t104 + 1))) + (Int.tmod (wrap64 (a3)) (wrap64 (t104 + 1))))) + (Int.tmod (wrap64 (a4)) (wrap64 (t104 + 1))))) - (mn (mn (Int.tmod (wrap64 (a2)) (wrap64 (t104 + 1))) (Int.tmod (wrap64 (a3)) (wrap64 (t104 + 1)))) (Int.tmod (wrap64 (a4)) (wrap64 (t104 + 1)))))) - (mx (mx (Int.tmod (wrap64 (a2)) (wrap64 (t104 + 1))) (Int.tmod (wrap64 (a3)) (wrap64 (t104 + 1)))) (Int.tmod (wrap64 (a4)) (wrap64 (t104 + 1)))))) (decide (bt113.2.1 > (wrap64 (bt105.2.1 + bt109.2.1)))) a0_0 a0_1 a0_2 a0_3 a0_4 a0_5 a0_6 a0_7 a0_8 bt105.1 bt105.2.1 bt109.1 bt109.2.1 bt113.1 bt113.2.1))) else (cottonpadlaw04_BurnClosed.j1 kj6 l1 t102 t104 (wrap64 ((wrap64 ((wrap64 ((wrap64 ((Int.tmod (wrap64 (a2)) (wrap64 (t104 + 1))) + (Int.tmod (wrap64 (a3)) (wrap64 (t104 + 1))))) + (Int.tmod (wrap64 (a4)) (wrap64 (t104 + 1))))) - (mn (mn (Int.tmod (wrap64 (a2)) (wrap64 (t104 + 1))) (Int.tmod (wrap64 (a3)) (wrap64 (t104 + 1)))) (Int.tmod (wrap64 (a4)) (wrap64 (t104 + 1)))))) - (mx (mx (Int.tmod (wrap64 (a2)) (wrap64 (t104 + 1))) (Int.tmod (wrap64 (a3)) (wrap64 (t104 + 1)))) (Int.tmod (wrap64 (a4)) (wrap64 (t104 + 1)))))) true a0_0 a0_1 a0_2 a0_3 a0_4 a0_5 a0_6 a0_7 a0_8 bt105.1 bt105.2.1 bt109.1 bt109.2.1 bt113.1 bt113.2.1)) else (cottonpadlaw04_BurnClosed.j1 kj6 l1 t102 t104 (wrap64 ((wrap64 ((wrap64 ((wrap64 ((Int.tmod (wrap64 (a2)) (wrap64 (t104 + 1))) + (Int.tmod (wrap64 (a3)) (wrap64 (t104 + 1))))) + (Int.tmod (wrap64 (a4)) (wrap64 (t104 + 1))))) - (mn (mn (Int.tmod (wrap64 (a2)) (wrap64 (t104 + 1))) (Int.tmod (wrap64 (a3)) (wrap64 (t104 + 1)))) (Int.tmod (wrap64 (a4)) (wrap64 (t104 + 1)))))) - (mx (mx (Int.tmod (wrap64 (a2)) (wrap64 (t104 + 1))) (Int.tmod (wrap64 (a3)) (wrap64 (t104 + 1)))) (Int.tmod (wrap64 (a4)) (wrap64 (t104 + 1)))))) true a0_0 a0_1 a0_2 a0_3 a0_4 a0_5 a0_6 a0_7 a0_8 bt105.1 bt105.2.1 bt109.1 bt109.2.1 bt113.1 bt113.2.1)) else (cottonpadlaw04_BurnClosed.j1 kj6 l1 t102 t104 (wrap64 ((wrap64 ((wrap64 ((wrap64 ((Int.tmod (wrap64 (a2)) (wrap64 (t104 + 1))) + (Int.tmod (wrap64 (a3)) (wrap64 (t104 + 1))))) + (Int.tmod (wrap64 (a4)) (wrap64 (t104 + 1))))) - (mn (mn (Int.tmod (wrap64 (a2)) (wrap64 (t104 + 1))) (Int.tmod (wrap64 (a3)) (wrap64 (t104 + 1)))) (Int.tmod (wrap64 (a4)) (wrap64 (t104 + 1)))))) - (mx (mx (Int.tmod (wrap64 (a2)) (wrap64 (t104 + 1))) (Int.tmod (wrap64 (a3)) (wrap64 (t104 + 1)))) (Int.tmod (wrap64 (a4)) (wrap64 (t104 + 1)))))) true a0_0 a0_1 a0_2 a0_3 a0_4 a0_5 a0_6 a0_7 a0_8 bt105.1 bt105.2.1 bt109.1 bt109.2.1 bt113.1 bt113.2.1)) else (cottonpadlaw04_BurnClosed.j1 kj6 l1 t102 t104 (wrap64 ((wrap64 ((wrap64 ((wrap64 ((Int.tmod (wrap64 (a2)) (wrap64 (t104 + 1))) + (Int.tmod (wrap64 (a3)) (wrap64 (t104 + 1))))) + (Int.tmod (wrap64 (a4)) (wrap64 (t104 + 1))))) - (mn (mn (Int.tmod (wrap64 (a2)) (wrap64 (t104 + 1))) (Int.tmod (wrap64 (a3)) (wrap64 (t104 + 1)))) (Int.tmod (wrap64 (a4)) (wrap64 (t104 + 1)))))) - (mx (mx (Int.tmod (wrap64 (a2)) (wrap64 (t104 + 1))) (Int.tmod (wrap64 (a3)) (wrap64 (t104 + 1)))) (Int.tmod (wrap64 (a4)) (wrap64 (t104 + 1)))))) true a0_0 a0_1 a0_2 a0_3 a0_4 a0_5 a0_6 a0_7 a0_8 bt105.1 bt105.2.1 bt109.1 bt109.2.1 bt113.1 bt113.2.1)))))))) = some r := by rw [if_neg (show ¬ (false = true) by decide)] at H; exact H
    clear H
    have H := H1
    clear H1
    replace H := Option.bind_eq_some_iff.mp H
    obtain ⟨t104, A170, H⟩ := H
    try dsimp only at H
    have A17 := A_ A170
    clear A170
    by_cases c18 : (wrap64 (t104 + 1)) = 0
    ·
     rw [if_pos c18] at H
     exact absurd H (by simp)
    ·
     rw [if_neg c18] at H
     have c18b0 : ((wrap64 (t104 + 1)) == 0) = false := beq_eq_false_iff_ne.mpr c18
     have c18b1 : ((wrap64 (t104 + 1)) != 0) = true := bne_iff_ne.mpr c18
     obtain ⟨ji19, hji19⟩ : ∃ j_ : Int, (mn (Int.tmod (wrap64 (a2)) (wrap64 (t104 + 1))) (Int.tmod (wrap64 (a3)) (wrap64 (t104 + 1)))) = j_ := ⟨_, rfl⟩
     replace H : ((burn_Sum.f kj6 a0_0 a0_1 a0_2 a0_3 a0_4 a0_5 a0_6 a0_7 a0_8 l1 (mn (ji19) (Int.tmod (wrap64 (a4)) (wrap64 (t104 + 1)))) (wrap64 ((wrap64 ((wrap64 ((wrap64 ((Int.tmod (wrap64 (a2)) (wrap64 (t104 + 1))) + (Int.tmod (wrap64 (a3)) (wrap64 (t104 + 1))))) + (Int.tmod (wrap64 (a4)) (wrap64 (t104 + 1))))) - (mn (ji19) (Int.tmod (wrap64 (a4)) (wrap64 (t104 + 1)))))) - (mx (mx (Int.tmod (wrap64 (a2)) (wrap64 (t104 + 1))) (Int.tmod (wrap64 (a3)) (wrap64 (t104 + 1)))) (Int.tmod (wrap64 (a4)) (wrap64 (t104 + 1))))))).bind fun bt105 => ((burn_Sum.f kj6 a0_0 a0_1 a0_2 a0_3 a0_4 a0_5 a0_6 a0_7 a0_8 l1 (wrap64 ((wrap64 ((wrap64 ((wrap64 ((Int.tmod (wrap64 (a2)) (wrap64 (t104 + 1))) + (Int.tmod (wrap64 (a3)) (wrap64 (t104 + 1))))) + (Int.tmod (wrap64 (a4)) (wrap64 (t104 + 1))))) - (mn (ji19) (Int.tmod (wrap64 (a4)) (wrap64 (t104 + 1)))))) - (mx (mx (Int.tmod (wrap64 (a2)) (wrap64 (t104 + 1))) (Int.tmod (wrap64 (a3)) (wrap64 (t104 + 1)))) (Int.tmod (wrap64 (a4)) (wrap64 (t104 + 1)))))) (mx (mx (Int.tmod (wrap64 (a2)) (wrap64 (t104 + 1))) (Int.tmod (wrap64 (a3)) (wrap64 (t104 + 1)))) (Int.tmod (wrap64 (a4)) (wrap64 (t104 + 1))))).bind fun bt109 => ((burn_Sum.f kj6 a0_0 a0_1 a0_2 a0_3 a0_4 a0_5 a0_6 a0_7 a0_8 l1 (mn (ji19) (Int.tmod (wrap64 (a4)) (wrap64 (t104 + 1)))) (mx (mx (Int.tmod (wrap64 (a2)) (wrap64 (t104 + 1))) (Int.tmod (wrap64 (a3)) (wrap64 (t104 + 1)))) (Int.tmod (wrap64 (a4)) (wrap64 (t104 + 1))))).bind fun bt113 => ((burn_Sum.f kj6 a0_0 a0_1 a0_2 a0_3 a0_4 a0_5 a0_6 a0_7 a0_8 l1 (wrap64 ((wrap64 ((wrap64 ((wrap64 ((Int.tmod (wrap64 (a2)) (wrap64 (t104 + 1))) + (Int.tmod (wrap64 (a3)) (wrap64 (t104 + 1))))) + (Int.tmod (wrap64 (a4)) (wrap64 (t104 + 1))))) - (mn (ji19) (Int.tmod (wrap64 (a4)) (wrap64 (t104 + 1)))))) - (mx (mx (Int.tmod (wrap64 (a2)) (wrap64 (t104 + 1))) (Int.tmod (wrap64 (a3)) (wrap64 (t104 + 1)))) (Int.tmod (wrap64 (a4)) (wrap64 (t104 + 1)))))) (wrap64 ((wrap64 ((wrap64 ((wrap64 ((Int.tmod (wrap64 (a2)) (wrap64 (t104 + 1))) + (Int.tmod (wrap64 (a3)) (wrap64 (t104 + 1))))) + (Int.tmod (wrap64 (a4)) (wrap64 (t104 + 1))))) - (mn (ji19) (Int.tmod (wrap64 (a4)) (wrap64 (t104 + 1)))))) - (mx (mx (Int.tmod (wrap64 (a2)) (wrap64 (t104 + 1))) (Int.tmod (wrap64 (a3)) (wrap64 (t104 + 1)))) (Int.tmod (wrap64 (a4)) (wrap64 (t104 + 1))))))).bind fun bt117 => (if bt105.2.2 = 0 then (if bt109.2.2 = 0 then (if bt113.2.2 = 0 then (if bt117.2.2 = 0 then (if (!(bt117.1 == 0) || (!(bt117.2.1 == 0))) = true then (cottonpadlaw04_BurnClosed.j1 kj6 l1 t102 t104 (wrap64 ((wrap64 ((wrap64 ((wrap64 ((Int.tmod (wrap64 (a2)) (wrap64 (t104 + 1))) + (Int.tmod (wrap64 (a3)) (wrap64 (t104 + 1))))) + (Int.tmod (wrap64 (a4)) (wrap64 (t104 + 1))))) - (mn (ji19) (Int.tmod (wrap64 (a4)) (wrap64 (t104 + 1)))))) - (mx (mx (Int.tmod (wrap64 (a2)) (wrap64 (t104 + 1))) (Int.tmod (wrap64 (a3)) (wrap64 (t104 + 1)))) (Int.tmod (wrap64 (a4)) (wrap64 (t104 + 1)))))) true a0_0 a0_1 a0_2 a0_3 a0_4 a0_5 a0_6 a0_7 a0_8 bt105.1 bt105.2.1 bt109.1 bt109.2.1 bt113.1 bt113.2.1) else (if bt113.1 < (wrap64 (bt105.1 + bt109.1)) then (cottonpadlaw04_BurnClosed.j1 kj6 l1 t102 t104 (wrap64 ((wrap64 ((wrap64 ((wrap64 ((Int.tmod (wrap64 (a2)) (wrap64 (t104 + 1))) + (Int.tmod (wrap64 (a3)) (wrap64 (t104 + 1))))) + (Int.tmod (wrap64 (a4)) (wrap64 (t104 + 1))))) - (mn (ji19) (Int.tmod (wrap64 (a4)) (wrap64 (t104 + 1)))))) - (mx (mx (Int.tmod (wrap64 (a2)) (wrap64 (t104 + 1))) (Int.tmod (wrap64 (a3)) (wrap64 (t104 + 1)))) (Int.tmod (wrap64 (a4)) (wrap64 (t104 + 1)))))) true a0_0 a0_1 a0_2 a0_3 a0_4 a0_5 a0_6 a0_7 a0_8 bt105.1 bt105.2.1 bt109.1 bt109.2.1 bt113.1 bt113.2.1) else (cottonpadlaw04_BurnClosed.j1 kj6 l1 t102 t104 (wrap64 ((wrap64 ((wrap64 ((wrap64 ((Int.tmod (wrap64 (a2)) (wrap64 (t104 + 1))) + (Int.tmod (wrap64 (a3)) (wrap64 (t104 + 1))))) + (Int.tmod (wrap64 (a4)) (wrap64 (t104 + 1))))) - (mn (ji19) (Int.tmod (wrap64 (a4)) (wrap64 (t104 + 1)))))) - (mx (mx (Int.tmod (wrap64 (a2)) (wrap64 (t104 + 1))) (Int.tmod (wrap64 (a3)) (wrap64 (t104 + 1)))) (Int.tmod (wrap64 (a4)) (wrap64 (t104 + 1)))))) (decide (bt113.2.1 > (wrap64 (bt105.2.1 + bt109.2.1)))) a0_0 a0_1 a0_2 a0_3 a0_4 a0_5 a0_6 a0_7 a0_8 bt105.1 bt105.2.1 bt109.1 bt109.2.1 bt113.1 bt113.2.1))) else (cottonpadlaw04_BurnClosed.j1 kj6 l1 t102 t104 (wrap64 ((wrap64 ((wrap64 ((wrap64 ((Int.tmod (wrap64 (a2)) (wrap64 (t104 + 1))) + (Int.tmod (wrap64 (a3)) (wrap64 (t104 + 1))))) + (Int.tmod (wrap64 (a4)) (wrap64 (t104 + 1))))) - (mn (ji19) (Int.tmod (wrap64 (a4)) (wrap64 (t104 + 1)))))) - (mx (mx (Int.tmod (wrap64 (a2)) (wrap64 (t104 + 1))) (Int.tmod (wrap64 (a3)) (wrap64 (t104 + 1)))) (Int.tmod (wrap64 (a4)) (wrap64 (t104 + 1)))))) true a0_0 a0_1 a0_2 a0_3 a0_4 a0_5 a0_6 a0_7 a0_8 bt105.1 bt105.2.1 bt109.1 bt109.2.1 bt113.1 bt113.2.1)) else (cottonpadlaw04_BurnClosed.j1 kj6 l1 t102 t104 (wrap64 ((wrap64 ((wrap64 ((wrap64 ((Int.tmod (wrap64 (a2)) (wrap64 (t104 + 1))) + (Int.tmod (wrap64 (a3)) (wrap64 (t104 + 1))))) + (Int.tmod (wrap64 (a4)) (wrap64 (t104 + 1))))) - (mn (ji19) (Int.tmod (wrap64 (a4)) (wrap64 (t104 + 1)))))) - (mx (mx (Int.tmod (wrap64 (a2)) (wrap64 (t104 + 1))) (Int.tmod (wrap64 (a3)) (wrap64 (t104 + 1)))) (Int.tmod (wrap64 (a4)) (wrap64 (t104 + 1)))))) true a0_0 a0_1 a0_2 a0_3 a0_4 a0_5 a0_6 a0_7 a0_8 bt105.1 bt105.2.1 bt109.1 bt109.2.1 bt113.1 bt113.2.1)) else (cottonpadlaw04_BurnClosed.j1 kj6 l1 t102 t104 (wrap64 ((wrap64 ((wrap64 ((wrap64 ((Int.tmod (wrap64 (a2)) (wrap64 (t104 + 1))) + (Int.tmod (wrap64 (a3)) (wrap64 (t104 + 1))))) + (Int.tmod (wrap64 (a4)) (wrap64 (t104 + 1))))) - (mn (ji19) (Int.tmod (wrap64 (a4)) (wrap64 (t104 + 1)))))) - (mx (mx (Int.tmod (wrap64 (a2)) (wrap64 (t104 + 1))) (Int.tmod (wrap64 (a3)) (wrap64 (t104 + 1)))) (Int.tmod (wrap64 (a4)) (wrap64 (t104 + 1)))))) true a0_0 a0_1 a0_2 a0_3 a0_4 a0_5 a0_6 a0_7 a0_8 bt105.1 bt105.2.1 bt109.1 bt109.2.1 bt113.1 bt113.2.1)) else (cottonpadlaw04_BurnClosed.j1 kj6 l1 t102 t104 (wrap64 ((wrap64 ((wrap64 ((wrap64 ((Int.tmod (wrap64 (a2)) (wrap64 (t104 + 1))) + (Int.tmod (wrap64 (a3)) (wrap64 (t104 + 1))))) + (Int.tmod (wrap64 (a4)) (wrap64 (t104 + 1))))) - (mn (ji19) (Int.tmod (wrap64 (a4)) (wrap64 (t104 + 1)))))) - (mx (mx (Int.tmod (wrap64 (a2)) (wrap64 (t104 + 1))) (Int.tmod (wrap64 (a3)) (wrap64 (t104 + 1)))) (Int.tmod (wrap64 (a4)) (wrap64 (t104 + 1)))))) true a0_0 a0_1 a0_2 a0_3 a0_4 a0_5 a0_6 a0_7 a0_8 bt105.1 bt105.2.1 bt109.1 bt109.2.1 bt113.1 bt113.2.1)))))) = some r := by first | (rw [hji19] at H; exact H) | (simp only [hji19] at H ⊢; exact H)
     (try rw [hji19] at A17)
     have hji19_ : (if (Int.tmod (wrap64 (a3)) (wrap64 (t104 + 1))) < (Int.tmod (wrap64 (a2)) (wrap64 (t104 + 1))) then (Int.tmod (wrap64 (a3)) (wrap64 (t104 + 1))) else (Int.tmod (wrap64 (a2)) (wrap64 (t104 + 1)))) = ji19 := hji19
     obtain ⟨ji20, hji20⟩ : ∃ j_ : Int, (mn (ji19) (Int.tmod (wrap64 (a4)) (wrap64 (t104 + 1)))) = j_ := ⟨_, rfl⟩
     replace H : ((burn_Sum.f kj6 a0_0 a0_1 a0_2 a0_3 a0_4 a0_5 a0_6 a0_7 a0_8 l1 (ji20) (wrap64 ((wrap64 ((wrap64 ((wrap64 ((Int.tmod (wrap64 (a2)) (wrap64 (t104 + 1))) + (Int.tmod (wrap64 (a3)) (wrap64 (t104 + 1))))) + (Int.tmod (wrap64 (a4)) (wrap64 (t104 + 1))))) - (ji20))) - (mx (mx (Int.tmod (wrap64 (a2)) (wrap64 (t104 + 1))) (Int.tmod (wrap64 (a3)) (wrap64 (t104 + 1)))) (Int.tmod (wrap64 (a4)) (wrap64 (t104 + 1))))))).bind fun bt105 => ((burn_Sum.f kj6 a0_0 a0_1 a0_2 a0_3 a0_4 a0_5 a0_6 a0_7 a0_8 l1 (wrap64 ((wrap64 ((wrap64 ((wrap64 ((Int.tmod (wrap64 (a2)) (wrap64 (t104 + 1))) + (Int.tmod (wrap64 (a3)) (wrap64 (t104 + 1))))) + (Int.tmod (wrap64 (a4)) (wrap64 (t104 + 1))))) - (ji20))) - (mx (mx (Int.tmod (wrap64 (a2)) (wrap64 (t104 + 1))) (Int.tmod (wrap64 (a3)) (wrap64 (t104 + 1)))) (Int.tmod (wrap64 (a4)) (wrap64 (t104 + 1)))))) (mx (mx (Int.tmod (wrap64 (a2)) (wrap64 (t104 + 1))) (Int.tmod (wrap64 (a3)) (wrap64 (t104 + 1)))) (Int.tmod (wrap64 (a4)) (wrap64 (t104 + 1))))).bind fun bt109 => ((burn_Sum.f kj6 a0_0 a0_1 a0_2 a0_3 a0_4 a0_5 a0_6 a0_7 a0_8 l1 (ji20) (mx (mx (Int.tmod (wrap64 (a2)) (wrap64 (t104 + 1))) (Int.tmod (wrap64 (a3)) (wrap64 (t104 + 1)))) (Int.tmod (wrap64 (a4)) (wrap64 (t104 + 1))))).bind fun bt113 => ((burn_Sum.f kj6 a0_0 a0_1 a0_2 a0_3 a0_4 a0_5 a0_6 a0_7 a0_8 l1 (wrap64 ((wrap64 ((wrap64 ((wrap64 ((Int.tmod (wrap64 (a2)) (wrap64 (t104 + 1))) + (Int.tmod (wrap64 (a3)) (wrap64 (t104 + 1))))) + (Int.tmod (wrap64 (a4)) (wrap64 (t104 + 1))))) - (ji20))) - (mx (mx (Int.tmod (wrap64 (a2)) (wrap64 (t104 + 1))) (Int.tmod (wrap64 (a3)) (wrap64 (t104 + 1)))) (Int.tmod (wrap64 (a4)) (wrap64 (t104 + 1)))))) (wrap64 ((wrap64 ((wrap64 ((wrap64 ((Int.tmod (wrap64 (a2)) (wrap64 (t104 + 1))) + (Int.tmod (wrap64 (a3)) (wrap64 (t104 + 1))))) + (Int.tmod (wrap64 (a4)) (wrap64 (t104 + 1))))) - (ji20))) - (mx (mx (Int.tmod (wrap64 (a2)) (wrap64 (t104 + 1))) (Int.tmod (wrap64 (a3)) (wrap64 (t104 + 1)))) (Int.tmod (wrap64 (a4)) (wrap64 (t104 + 1))))))).bind fun bt117 => (if bt105.2.2 = 0 then (if bt109.2.2 = 0 then (if bt113.2.2 = 0 then (if bt117.2.2 = 0 then (if (!(bt117.1 == 0) || (!(bt117.2.1 == 0))) = true then (cottonpadlaw04_BurnClosed.j1 kj6 l1 t102 t104 (wrap64 ((wrap64 ((wrap64 ((wrap64 ((Int.tmod (wrap64 (a2)) (wrap64 (t104 + 1))) + (Int.tmod (wrap64 (a3)) (wrap64 (t104 + 1))))) + (Int.tmod (wrap64 (a4)) (wrap64 (t104 + 1))))) - (ji20))) - (mx (mx (Int.tmod (wrap64 (a2)) (wrap64 (t104 + 1))) (Int.tmod (wrap64 (a3)) (wrap64 (t104 + 1)))) (Int.tmod (wrap64 (a4)) (wrap64 (t104 + 1)))))) true a0_0 a0_1 a0_2 a0_3 a0_4 a0_5 a0_6 a0_7 a0_8 bt105.1 bt105.2.1 bt109.1 bt109.2.1 bt113.1 bt113.2.1) else (if bt113.1 < (wrap64 (bt105.1 + bt109.1)) then (cottonpadlaw04_BurnClosed.j1 kj6 l1 t102 t104 (wrap64 ((wrap64 ((wrap64 ((wrap64 ((Int.tmod (wrap64 (a2)) (wrap64 (t104 + 1))) + (Int.tmod (wrap64 (a3)) (wrap64 (t104 + 1))))) + (Int.tmod (wrap64 (a4)) (wrap64 (t104 + 1))))) - (ji20))) - (mx (mx (Int.tmod (wrap64 (a2)) (wrap64 (t104 + 1))) (Int.tmod (wrap64 (a3)) (wrap64 (t104 + 1)))) (Int.tmod (wrap64 (a4)) (wrap64 (t104 + 1)))))) true a0_0 a0_1 a0_2 a0_3 a0_4 a0_5 a0_6 a0_7 a0_8 bt105.1 bt105.2.1 bt109.1 bt109.2.1 bt113.1 bt113.2.1) else (cottonpadlaw04_BurnClosed.j1 kj6 l1 t102 t104 (wrap64 ((wrap64 ((wrap64 ((wrap64 ((Int.tmod (wrap64 (a2)) (wrap64 (t104 + 1))) + (Int.tmod (wrap64 (a3)) (wrap64 (t104 + 1))))) + (Int.tmod (wrap64 (a4)) (wrap64 (t104 + 1))))) - (ji20))) - (mx (mx (Int.tmod (wrap64 (a2)) (wrap64 (t104 + 1))) (Int.tmod (wrap64 (a3)) (wrap64 (t104 + 1)))) (Int.tmod (wrap64 (a4)) (wrap64 (t104 + 1)))))) (decide (bt113.2.1 > (wrap64 (bt105.2.1 + bt109.2.1)))) a0_0 a0_1 a0_2 a0_3 a0_4 a0_5 a0_6 a0_7 a0_8 bt105.1 bt105.2.1 bt109.1 bt109.2.1 bt113.1 bt113.2.1))) else (cottonpadlaw04_BurnClosed.j1 kj6 l1 t102 t104 (wrap64 ((wrap64 ((wrap64 ((wrap64 ((Int.tmod (wrap64 (a2)) (wrap64 (t104 + 1))) + (Int.tmod (wrap64 (a3)) (wrap64 (t104 + 1))))) + (Int.tmod (wrap64 (a4)) (wrap64 (t104 + 1))))) - (ji20))) - (mx (mx (Int.tmod (wrap64 (a2)) (wrap64 (t104 + 1))) (Int.tmod (wrap64 (a3)) (wrap64 (t104 + 1)))) (Int.tmod (wrap64 (a4)) (wrap64 (t104 + 1)))))) true a0_0 a0_1 a0_2 a0_3 a0_4 a0_5 a0_6 a0_7 a0_8 bt105.1 bt105.2.1 bt109.1 bt109.2.1 bt113.1 bt113.2.1)) else (cottonpadlaw04_BurnClosed.j1 kj6 l1 t102 t104 (wrap64 ((wrap64 ((wrap64 ((wrap64 ((Int.tmod (wrap64 (a2)) (wrap64 (t104 + 1))) + (Int.tmod (wrap64 (a3)) (wrap64 (t104 + 1))))) + (Int.tmod (wrap64 (a4)) (wrap64 (t104 + 1))))) - (ji20))) - (mx (mx (Int.tmod (wrap64 (a2)) (wrap64 (t104 + 1))) (Int.tmod (wrap64 (a3)) (wrap64 (t104 + 1)))) (Int.tmod (wrap64 (a4)) (wrap64 (t104 + 1)))))) true a0_0 a0_1 a0_2 a0_3 a0_4 a0_5 a0_6 a0_7 a0_8 bt105.1 bt105.2.1 bt109.1 bt109.2.1 bt113.1 bt113.2.1)) else (cottonpadlaw04_BurnClosed.j1 kj6 l1 t102 t104 (wrap64 ((wrap64 ((wrap64 ((wrap64 ((Int.tmod (wrap64 (a2)) (wrap64 (t104 + 1))) + (Int.tmod (wrap64 (a3)) (wrap64 (t104 + 1))))) + (Int.tmod (wrap64 (a4)) (wrap64 (t104 + 1))))) - (ji20))) - (mx (mx (Int.tmod (wrap64 (a2)) (wrap64 (t104 + 1))) (Int.tmod (wrap64 (a3)) (wrap64 (t104 + 1)))) (Int.tmod (wrap64 (a4)) (wrap64 (t104 + 1)))))) true a0_0 a0_1 a0_2 a0_3 a0_4 a0_5 a0_6 a0_7 a0_8 bt105.1 bt105.2.1 bt109.1 bt109.2.1 bt113.1 bt113.2.1)) else (cottonpadlaw04_BurnClosed.j1 kj6 l1 t102 t104 (wrap64 ((wrap64 ((wrap64 ((wrap64 ((Int.tmod (wrap64 (a2)) (wrap64 (t104 + 1))) + (Int.tmod (wrap64 (a3)) (wrap64 (t104 + 1))))) + (Int.tmod (wrap64 (a4)) (wrap64 (t104 + 1))))) - (ji20))) - (mx (mx (Int.tmod (wrap64 (a2)) (wrap64 (t104 + 1))) (Int.tmod (wrap64 (a3)) (wrap64 (t104 + 1)))) (Int.tmod (wrap64 (a4)) (wrap64 (t104 + 1)))))) true a0_0 a0_1 a0_2 a0_3 a0_4 a0_5 a0_6 a0_7 a0_8 bt105.1 bt105.2.1 bt109.1 bt109.2.1 bt113.1 bt113.2.1)))))) = some r := by first | (rw [hji20] at H; exact H) | (simp only [hji20] at H ⊢; exact H)
     (try rw [hji20] at A17)
     have hji20_ : (if (Int.tmod (wrap64 (a4)) (wrap64 (t104 + 1))) < (ji19) then (Int.tmod (wrap64 (a4)) (wrap64 (t104 + 1))) else (ji19)) = ji20 := hji20
     obtain ⟨ji21, hji21⟩ : ∃ j_ : Int, (mx (Int.tmod (wrap64 (a2)) (wrap64 (t104 + 1))) (Int.tmod (wrap64 (a3)) (wrap64 (t104 + 1)))) = j_ := ⟨_, rfl⟩
     replace H : ((burn_Sum.f kj6 a0_0 a0_1 a0_2 a0_3 a0_4 a0_5 a0_6 a0_7 a0_8 l1 (ji20) (wrap64 ((wrap64 ((wrap64 ((wrap64 ((Int.tmod (wrap64 (a2)) (wrap64 (t104 + 1))) + (Int.tmod (wrap64 (a3)) (wrap64 (t104 + 1))))) + (Int.tmod (wrap64 (a4)) (wrap64 (t104 + 1))))) - (ji20))) - (mx (ji21) (Int.tmod (wrap64 (a4)) (wrap64 (t104 + 1))))))).bind fun bt105 => ((burn_Sum.f kj6 a0_0 a0_1 a0_2 a0_3 a0_4 a0_5 a0_6 a0_7 a0_8 l1 (wrap64 ((wrap64 ((wrap64 ((wrap64 ((Int.tmod (wrap64 (a2)) (wrap64 (t104 + 1))) + (Int.tmod (wrap64 (a3)) (wrap64 (t104 + 1))))) + (Int.tmod (wrap64 (a4)) (wrap64 (t104 + 1))))) - (ji20))) - (mx (ji21) (Int.tmod (wrap64 (a4)) (wrap64 (t104 + 1)))))) (mx (ji21) (Int.tmod (wrap64 (a4)) (wrap64 (t104 + 1))))).bind fun bt109 => ((burn_Sum.f kj6 a0_0 a0_1 a0_2 a0_3 a0_4 a0_5 a0_6 a0_7 a0_8 l1 (ji20) (mx (ji21) (Int.tmod (wrap64 (a4)) (wrap64 (t104 + 1))))).bind fun bt113 => ((burn_Sum.f kj6 a0_0 a0_1 a0_2 a0_3 a0_4 a0_5 a0_6 a0_7 a0_8 l1 (wrap64 ((wrap64 ((wrap64 ((wrap64 ((Int.tmod (wrap64 (a2)) (wrap64 (t104 + 1))) + (Int.tmod (wrap64 (a3)) (wrap64 (t104 + 1))))) + (Int.tmod (wrap64 (a4)) (wrap64 (t104 + 1))))) - (ji20))) - (mx (ji21) (Int.tmod (wrap64 (a4)) (wrap64 (t104 + 1)))))) (wrap64 ((wrap64 ((wrap64 ((wrap64 ((Int.tmod (wrap64 (a2)) (wrap64 (t104 + 1))) + (Int.tmod (wrap64 (a3)) (wrap64 (t104 + 1))))) + (Int.tmod (wrap64 (a4)) (wrap64 (t104 + 1))))) - (ji20))) - (mx (ji21) (Int.tmod (wrap64 (a4)) (wrap64 (t104 + 1))))))).bind fun bt117 => (if bt105.2.2 = 0 then (if bt109.2.2 = 0 then (if bt113.2.2 = 0 then (if bt117.2.2 = 0 then (if (!(bt117.1 == 0) || (!(bt117.2.1 == 0))) = true then (cottonpadlaw04_BurnClosed.j1 kj6 l1 t102 t104 (wrap64 ((wrap64 ((wrap64 ((wrap64 ((Int.tmod (wrap64 (a2)) (wrap64 (t104 + 1))) + (Int.tmod (wrap64 (a3)) (wrap64 (t104 + 1))))) + (Int.tmod (wrap64 (a4)) (wrap64 (t104 + 1))))) - (ji20))) - (mx (ji21) (Int.tmod (wrap64 (a4)) (wrap64 (t104 + 1)))))) true a0_0 a0_1 a0_2 a0_3 a0_4 a0_5 a0_6 a0_7 a0_8 bt105.1 bt105.2.1 bt109.1 bt109.2.1 bt113.1 bt113.2.1) else (if bt113.1 < (wrap64 (bt105.1 + bt109.1)) then (cottonpadlaw04_BurnClosed.j1 kj6 l1 t102 t104 (wrap64 ((wrap64 ((wrap64 ((wrap64 ((Int.tmod (wrap64 (a2)) (wrap64 (t104 + 1))) + (Int.tmod (wrap64 (a3)) (wrap64 (t104 + 1))))) + (Int.tmod (wrap64 (a4)) (wrap64 (t104 + 1))))) - (ji20))) - (mx (ji21) (Int.tmod (wrap64 (a4)) (wrap64 (t104 + 1)))))) true a0_0 a0_1 a0_2 a0_3 a0_4 a0_5 a0_6 a0_7 a0_8 bt105.1 bt105.2.1 bt109.1 bt109.2.1 bt113.1 bt113.2.1) else (cottonpadlaw04_BurnClosed.j1 kj6 l1 t102 t104 (wrap64 ((wrap64 ((wrap64 ((wrap64 ((Int.tmod (wrap64 (a2)) (wrap64 (t104 + 1))) + (Int.tmod (wrap64 (a3)) (wrap64 (t104 + 1))))) + (Int.tmod (wrap64 (a4)) (wrap64 (t104 + 1))))) - (ji20))) - (mx (ji21) (Int.tmod (wrap64 (a4)) (wrap64 (t104 + 1)))))) (decide (bt113.2.1 > (wrap64 (bt105.2.1 + bt109.2.1)))) a0_0 a0_1 a0_2 a0_3 a0_4 a0_5 a0_6 a0_7 a0_8 bt105.1 bt105.2.1 bt109.1 bt109.2.1 bt113.1 bt113.2.1))) else (cottonpadlaw04_BurnClosed.j1 kj6 l1 t102 t104 (wrap64 ((wrap64 ((wrap64 ((wrap64 ((Int.tmod (wrap64 (a2)) (wrap64 (t104 + 1))) + (Int.tmod (wrap64 (a3)) (wrap64 (t104 + 1))))) + (Int.tmod (wrap64 (a4)) (wrap64 (t104 + 1))))) - (ji20))) - (mx (ji21) (Int.tmod (wrap64 (a4)) (wrap64 (t104 + 1)))))) true a0_0 a0_1 a0_2 a0_3 a0_4 a0_5 a0_6 a0_7 a0_8 bt105.1 bt105.2.1 bt109.1 bt109.2.1 bt113.1 bt113.2.1)) else (cottonpadlaw04_BurnClosed.j1 kj6 l1 t102 t104 (wrap64 ((wrap64 ((wrap64 ((wrap64 ((Int.tmod (wrap64 (a2)) (wrap64 (t104 + 1))) + (Int.tmod (wrap64 (a3)) (wrap64 (t104 + 1))))) + (Int.tmod (wrap64 (a4)) (wrap64 (t104 + 1))))) - (ji20))) - (mx (ji21) (Int.tmod (wrap64 (a4)) (wrap64 (t104 + 1)))))) true a0_0 a0_1 a0_2 a0_3 a0_4 a0_5 a0_6 a0_7 a0_8 bt105.1 bt105.2.1 bt109.1 bt109.2.1 bt113.1 bt113.2.1)) else (cottonpadlaw04_BurnClosed.j1 kj6 l1 t102 t104 (wrap64 ((wrap64 ((wrap64 ((wrap64 ((Int.tmod (wrap64 (a2)) (wrap64 (t104 + 1))) + (Int.tmod (wrap64 (a3)) (wrap64 (t104 + 1))))) + (Int.tmod (wrap64 (a4)) (wrap64 (t104 + 1))))) - (ji20))) - (mx (ji21) (Int.tmod (wrap64 (a4)) (wrap64 (t104 + 1)))))) true a0_0 a0_1 a0_2 a0_3 a0_4 a0_5 a0_6 a0_7 a0_8 bt105.1 bt105.2.1 bt109.1 bt109.2.1 bt113.1 bt113.2.1)) else (cottonpadlaw04_BurnClosed.j1 kj6 l1 t102 t104 (wrap64 ((wrap64 ((wrap64 ((wrap64 ((Int.tmod (wrap64 (a2)) (wrap64 (t104 + 1))) + (Int.tmod (wrap64 (a3)) (wrap64 (t104 + 1))))) + (Int.tmod (wrap64 (a4)) (wrap64 (t104 + 1))))) - (ji20))) - (mx (ji21) (Int.tmod (wrap64 (a4)) (wrap64 (t104 + 1)))))) true a0_0 a0_1 a0_2 a0_3 a0_4 a0_5 a0_6 a0_7 a0_8 bt105.1 bt105.2.1 bt109.1 bt109.2.1 bt113.1 bt113.2.1)))))) = some r := by first | (rw [hji21] at H; exact H) | (simp only [hji21] at H ⊢; exact H)
     (try rw [hji21] at A17)
     have hji21_ : (if (Int.tmod (wrap64 (a2)) (wrap64 (t104 + 1))) < (Int.tmod (wrap64 (a3)) (wrap64 (t104 + 1))) then (Int.tmod (wrap64 (a3)) (wrap64 (t104 + 1))) else (Int.tmod (wrap64 (a2)) (wrap64 (t104 + 1)))) = ji21 := hji21
     obtain ⟨ji22, hji22⟩ : ∃ j_ : Int, (mx (ji21) (Int.tmod (wrap64 (a4)) (wrap64 (t104 + 1)))) = j_ := ⟨_, rfl⟩
     replace H : ((burn_Sum.f kj6 a0_0 a0_1 a0_2 a0_3 a0_4 a0_5 a0_6 a0_7 a0_8 l1 (ji20) (wrap64 ((wrap64 ((wrap64 ((wrap64 ((Int.tmod (wrap64 (a2)) (wrap64 (t104 + 1))) + (Int.tmod (wrap64 (a3)) (wrap64 (t104 + 1))))) + (Int.tmod (wrap64 (a4)) (wrap64 (t104 + 1))))) - (ji20))) - (ji22)))).bind fun bt105 => ((burn_Sum.f kj6 a0_0 a0_1 a0_2 a0_3 a0_4 a0_5 a0_6 a0_7 a0_8 l1 (wrap64 ((wrap64 ((wrap64 ((wrap64 ((Int.tmod (wrap64 (a2)) (wrap64 (t104 + 1))) + (Int.tmod (wrap64 (a3)) (wrap64 (t104 + 1))))) + (Int.tmod (wrap64 (a4)) (wrap64 (t104 + 1))))) - (ji20))) - (ji22))) (ji22)).bind fun bt109 => ((burn_Sum.f kj6 a0_0 a0_1 a0_2 a0_3 a0_4 a0_5 a0_6 a0_7 a0_8 l1 (ji20) (ji22)).bind fun bt113 => ((burn_Sum.f kj6 a0_0 a0_1 a0_2 a0_3 a0_4 a0_5 a0_6 a0_7 a0_8 l1 (wrap64 ((wrap64 ((wrap64 ((wrap64 ((Int.tmod (wrap64 (a2)) (wrap64 (t104 + 1))) + (Int.tmod (wrap64 (a3)) (wrap64 (t104 + 1))))) + (Int.tmod (wrap64 (a4)) (wrap64 (t104 + 1))))) - (ji20))) - (ji22))) (wrap64 ((wrap64 ((wrap64 ((wrap64 ((Int.tmod (wrap64 (a2)) (wrap64 (t104 + 1))) + (Int.tmod (wrap64 (a3)) (wrap64 (t104 + 1))))) + (Int.tmod (wrap64 (a4)) (wrap64 (t104 + 1))))) - (ji20))) - (ji22)))).bind fun bt117 => (if bt105.2.2 = 0 then (if bt109.2.2 = 0 then (if bt113.2.2 = 0 then (if bt117.2.2 = 0 then (if (!(bt117.1 == 0) || (!(bt117.2.1 == 0))) = true then (cottonpadlaw04_BurnClosed.j1 kj6 l1 t102 t104 (wrap64 ((wrap64 ((wrap64 ((wrap64 ((Int.tmod (wrap64 (a2)) (wrap64 (t104 + 1))) + (Int.tmod (wrap64 (a3)) (wrap64 (t104 + 1))))) + (Int.tmod (wrap64 (a4)) (wrap64 (t104 + 1))))) - (ji20))) - (ji22))) true a0_0 a0_1 a0_2 a0_3 a0_4 a0_5 a0_6 a0_7 a0_8 bt105.1 bt105.2.1 bt109.1 bt109.2.1 bt113.1 bt113.2.1) else (if bt113.1 < (wrap64 (bt105.1 + bt109.1)) then (cottonpadlaw04_BurnClosed.j1 kj6 l1 t102 t104 (wrap64 ((wrap64 ((wrap64 ((wrap64 ((Int.tmod (wrap64 (a2)) (wrap64 (t104 + 1))) + (Int.tmod (wrap64 (a3)) (wrap64 (t104 + 1))))) + (Int.tmod (wrap64 (a4)) (wrap64 (t104 + 1))))) - (ji20))) - (ji22))) true a0_0 a0_1 a0_2 a0_3 a0_4 a0_5 a0_6 a0_7 a0_8 bt105.1 bt105.2.1 bt109.1 bt109.2.1 bt113.1 bt113.2.1) else (cottonpadlaw04_BurnClosed.j1 kj6 l1 t102 t104 (wrap64 ((wrap64 ((wrap64 ((wrap64 ((Int.tmod (wrap64 (a2)) (wrap64 (t104 + 1))) + (Int.tmod (wrap64 (a3)) (wrap64 (t104 + 1))))) + (Int.tmod (wrap64 (a4)) (wrap64 (t104 + 1))))) - (ji20))) - (ji22))) (decide (bt113.2.1 > (wrap64 (bt105.2.1 + bt109.2.1)))) a0_0 a0_1 a0_2 a0_3 a0_4 a0_5 a0_6 a0_7 a0_8 bt105.1 bt105.2.1 bt109.1 bt109.2.1 bt113.1 bt113.2.1))) else (cottonpadlaw04_BurnClosed.j1 kj6 l1 t102 t104 (wrap64 ((wrap64 ((wrap64 ((wrap64 ((Int.tmod (wrap64 (a2)) (wrap64 (t104 + 1))) + (Int.tmod (wrap64 (a3)) (wrap64 (t104 + 1))))) + (Int.tmod (wrap64 (a4)) (wrap64 (t104 + 1))))) - (ji20))) - (ji22))) true a0_0 a0_1 a0_2 a0_3 a0_4 a0_5 a0_6 a0_7 a0_8 bt105.1 bt105.2.1 bt109.1 bt109.2.1 bt113.1 bt113.2.1)) else (cottonpadlaw04_BurnClosed.j1 kj6 l1 t102 t104 (wrap64 ((wrap64 ((wrap64 ((wrap64 ((Int.tmod (wrap64 (a2)) (wrap64 (t104 + 1))) + (Int.tmod (wrap64 (a3)) (wrap64 (t104 + 1))))) + (Int.tmod (wrap64 (a4)) (wrap64 (t104 + 1))))) - (ji20))) - (ji22))) true a0_0 a0_1 a0_2 a0_3 a0_4 a0_5 a0_6 a0_7 a0_8 bt105.1 bt105.2.1 bt109.1 bt109.2.1 bt113.1 bt113.2.1)) else (cottonpadlaw04_BurnClosed.j1 kj6 l1 t102 t104 (wrap64 ((wrap64 ((wrap64 ((wrap64 ((Int.tmod (wrap64 (a2)) (wrap64 (t104 + 1))) + (Int.tmod (wrap64 (a3)) (wrap64 (t104 + 1))))) + (Int.tmod (wrap64 (a4)) (wrap64 (t104 + 1))))) - (ji20))) - (ji22))) true a0_0 a0_1 a0_2 a0_3 a0_4 a0_5 a0_6 a0_7 a0_8 bt105.1 bt105.2.1 bt109.1 bt109.2.1 bt113.1 bt113.2.1)) else (cottonpadlaw04_BurnClosed.j1 kj6 l1 t102 t104 (wrap64 ((wrap64 ((wrap64 ((wrap64 ((Int.tmod (wrap64 (a2)) (wrap64 (t104 + 1))) + (Int.tmod (wrap64 (a3)) (wrap64 (t104 + 1))))) + (Int.tmod (wrap64 (a4)) (wrap64 (t104 + 1))))) - (ji20))) - (ji22))) true a0_0 a0_1 a0_2 a0_3 a0_4 a0_5 a0_6 a0_7 a0_8 bt105.1 bt105.2.1 bt109.1 bt109.2.1 bt113.1 bt113.2.1)))))) = some r := by first | (rw [hji22] at H; exact H) | (simp only [hji22] at H ⊢; exact H)
     (try rw [hji22] at A17)
     have hji22_ : (if (ji21) < (Int.tmod (wrap64 (a4)) (wrap64 (t104 + 1))) then (Int.tmod (wrap64 (a4)) (wrap64 (t104 + 1))) else (ji21)) = ji22 := hji22
     replace H := Option.bind_eq_some_iff.mp H
     obtain ⟨⟨t105, t106, t107⟩, A230, H⟩ := H
     try dsimp only at H
     have A23 := A_ A230
     clear A230
     replace H := Option.bind_eq_some_iff.mp H
     obtain ⟨⟨t109, t110, t111⟩, A240, H⟩ := H
     try dsimp only at H
     have A24 := A_ A240
     clear A240
     replace H := Option.bind_eq_some_iff.mp H
     obtain ⟨⟨t113, t114, t115⟩, A250, H⟩ := H
     try dsimp only at H
     have A25 := A_ A250
     clear A250
     replace H := Option.bind_eq_some_iff.mp H
     obtain ⟨⟨t117, t118, t119⟩, A260, H⟩ := H
     try dsimp only at H
     have A26 := A_ A260
     clear A260
     have HC27 := A_ H
     clear H
     have hcz28_0 : wc.cell? ⟨gb101, 0, none⟩ = some (.int .i64 a0_0) := (blk_cell BK101.out 0).trans rfl
     have hcz28_1 : wc.cell? ⟨gb101, 1, none⟩ = some (.int .i64 a0_1) := (blk_cell BK101.out 1).trans rfl
     have hcz28_2 : wc.cell? ⟨gb101, 2, none⟩ = some (.int .i64 a0_2) := (blk_cell BK101.out 2).trans rfl
     have hcz28_3 : wc.cell? ⟨gb101, 3, none⟩ = some (.int .i64 a0_3) := (blk_cell BK101.out 3).trans rfl
     have hcz28_4 : wc.cell? ⟨gb101, 4, none⟩ = some (.int .i64 a0_4) := (blk_cell BK101.out 4).trans rfl
     have hcz28_5 : wc.cell? ⟨gb101, 5, none⟩ = some (.int .i64 a0_5) := (blk_cell BK101.out 5).trans rfl
     have hcz28_6 : wc.cell? ⟨gb101, 6, none⟩ = some (.int .i64 a0_6) := (blk_cell BK101.out 6).trans rfl
     have hcz28_7 : wc.cell? ⟨gb101, 7, none⟩ = some (.int .i64 a0_7) := (blk_cell BK101.out 7).trans rfl
     have hcz28_8 : wc.cell? ⟨gb101, 8, none⟩ = some (.int .i64 a0_8) := (blk_cell BK101.out 8).trans rfl
     have hfz28_0 := blk_frozen BK101.out 0
     have hfz28_1 := blk_frozen BK101.out 1
     have hfz28_2 := blk_frozen BK101.out 2
     have hfz28_3 := blk_frozen BK101.out 3
     have hfz28_4 := blk_frozen BK101.out 4
     have hfz28_5 := blk_frozen BK101.out 5
     have hfz28_6 := blk_frozen BK101.out 6
     have hfz28_7 := blk_frozen BK101.out 7
     have hfz28_8 := blk_frozen BK101.out 8
     try go_wp2_with (first | ((with_reducible refine gate_callee (f := 33) rfl ?_); refine goesL_ (some 43) rfl rfl Tryd.func33 (by kernel_rfl) rfl #[.agg #[.int .i64 a0_0, .int .i64 a0_1, .int .i64 a0_2, .int .i64 a0_3, .int .i64 a0_4, .int .i64 a0_5, .int .i64 a0_6, .int .i64 a0_7, .int .i64 a0_8], .slice A1 l1.length c1] rfl (by (try simp only [List.map_toArray, List.map_cons, List.map_nil]); first | done | rfl | (simp only [List.length_drop, List.length_take]; rfl)) ?_; (with_reducible refine (cottonpadref04_Seconds.calls a0_0 a0_1 a0_2 a0_3 a0_4 a0_5 a0_6 a0_7 a0_8 _ _ l1 t104 _ ?side1 ?side2 A17.out).mono ?_); (case side1 => repeat (first | exact (Kd.C_below HR1.out HB.out) | (with_reducible refine Kd.C_alloc ?_ _) | (with_reducible refine Kd.C_drewN ?_ _) | (with_reducible refine Kd.C_drew ?_))); (case side2 => exact HC1.out); rintro e w29 ⟨rfl, hb⟩; refine ⟨_, rfl, ?_⟩; have n0_ := bb_ BK101.out hb; have n1_ := A_ (below_step (by repeat (first | (with_reducible first | exact HB.out | apply below_alloc | apply pw_below_drewN | apply below_drew1 | refine below_set ?_ GE101.out) | exact HB.out)) hb); clear BK101; clear HB; have BK101 := n0_; have HB := n1_; clear n0_ n1_; (try clear hb); (try clear hb2); (try clear hk); (try clear hi)))
     have n0_ := A_ (blk_drew BK101.out)
     have n1_ := A_ (below_drew1 HB.out)
     clear BK101
     clear HB
     have BK101 := n0_
     have HB := n1_
     clear n0_ n1_
     refine start_ (n := 18) (S := fun w' => True) (ds := []) #[false, false, false, false, false, false, false, false, false, false, false, false, false, false, false, false, false, false] (by kernel_rfl) rfl rfl trivial (fun hHeld => ?_); refine with_tabW cottonpadlaw04_BurnClosed.tab5 cottonpadlaw04_BurnClosed.bits5 (fun HT_ HW_ => ?_)
     generalize w29.drew = w30 at BK101 HB hHeld ⊢
     refine pure_ (i := 0) (N := some 44) (v := ?_) (a' := ?_) #[true, false, false, false, false, false, false, false, false, false, false, false, false, false, false, false, false, false] rfl rfl (any_of HT_.out (by kernel_rfl)) (fun _ _ _ h => h) (Or.inl ⟨by rfl, ?_⟩) ?_ ?_
     rotate_left
     ·
      intro w'
      go_simp
      with_reducible rfl
     rotate_left
     ·
      simp only [Act.put, sT_, s0_, sS_, i64_w, i32_w]
      rfl
     refine pure_ (i := 1) (N := some 45) (v := ?_) (a' := ?_) #[true, true, false, false, false, false, false, false, false, false, false, false, false, false, false, false, false, false] rfl rfl (any_of HT_.out (by kernel_rfl)) (fun _ _ _ h => h) (Or.inl ⟨by rfl, ?_⟩) ?_ ?_
     rotate_left
     ·
      intro w'
      go_simp
      with_reducible rfl
     rotate_left
     ·
      simp only [Act.put, sT_, s0_, sS_, i64_w, i32_w]
      rfl
     refine pure_ (i := 2) (N := some 46) (v := ?_) (a' := ?_) #[true, true, true, false, false, false, false, false, false, false, false, false, false, false, false, false, false, false] rfl rfl (any_of HT_.out (by kernel_rfl)) (fun _ _ _ h => h) (Or.inl ⟨by rfl, ?_⟩) ?_ ?_
     rotate_left
     ·
      intro w'
      go_simp
      with_reducible rfl
     rotate_left
     ·
      simp only [Act.put, sT_, s0_, sS_, i64_w, i32_w]
      rfl
     refine pure_ (i := 3) (N := some 47) (v := ?_) (a' := ?_) #[true, true, true, true, false, false, false, false, false, false, false, false, false, false, false, false, false, false] rfl rfl (any_of HT_.out (by kernel_rfl)) (fun _ _ _ h => h) (Or.inl ⟨by rfl, ?_⟩) ?_ ?_
     rotate_left
     ·
      intro w'
      go_simp
      with_reducible rfl
     rotate_left
     ·
      simp only [Act.put, sT_, s0_, sS_, i64_w, i32_w]
      rfl
     refine pure_ (i := 4) (N := some 48) (v := ?_) (a' := ?_) #[true, true, true, true, true, false, false, false, false, false, false, false, false, false, false, false, false, false] rfl rfl (any_of HT_.out (by kernel_rfl)) (fun _ _ _ h => h) (Or.inl ⟨by rfl, ?_⟩) ?_ ?_
     rotate_left
     ·
      intro w'
      go_simp
      with_reducible rfl
     rotate_left
     ·
      simp only [Act.put, sT_, s0_, sS_, i64_w, i32_w]
      rfl
     refine pure_ (i := 5) (N := some 49) (v := ?_) (a' := ?_) #[true, true, true, true, true, true, false, false, false, false, false, false, false, false, false, false, false, false] rfl rfl (any_of HT_.out (by kernel_rfl)) (fun _ _ _ h => h) (Or.inl ⟨by rfl, ?_⟩) ?_ ?_
     rotate_left
     ·
      intro w'
      go_simp
      with_reducible rfl
     rotate_left
     ·
      simp only [Act.put, sT_, s0_, sS_, i64_w, i32_w]
      rfl
     refine pure_ (i := 6) (N := some 50) (v := ?_) (a' := ?_) #[true, true, true, true, true, true, true, false, false, false, false, false, false, false, false, false, false, false] rfl rfl (any_of HT_.out (by kernel_rfl)) (fun _ _ _ h => h) (Or.inl ⟨by rfl, ?_⟩) ?_ ?_
     rotate_left
     ·
      intro w'
      go_simp
      with_reducible rfl
     rotate_left
     ·
      simp only [Act.put, sT_, s0_, sS_, i64_w, i32_w]
      rfl
     refine pure_ (i := 7) (N := some 51) (v := ?_) (a' := ?_) #[true, true, true, true, true, true, true, true, false, false, false, false, false, false, false, false, false, false] rfl rfl (any_of HT_.out (by kernel_rfl)) (fun _ _ _ h => h) (Or.inl ⟨by rfl, ?_⟩) ?_ ?_
     rotate_left
     ·
      intro w'
      go_simp
      with_reducible rfl
     rotate_left
     ·
      simp only [Act.put, sT_, s0_, sS_, i64_w, i32_w]
      rfl
     refine pure_ (i := 8) (N := some 52) (v := ?_) (a' := ?_) #[true, true, true, true, true, true, true, true, true, false, false, false, false, false, false, false, false, false] rfl rfl (any_of HT_.out (by kernel_rfl)) (fun _ _ _ h => h) (Or.inl ⟨by rfl, ?_⟩) ?_ ?_
     rotate_left
     ·
      intro w'
      go_simp
      with_reducible rfl
     rotate_left
     ·
      simp only [Act.put, sT_, s0_, sS_, i64_w, i32_w]
      rfl
     refine pure_ (i := 9) (N := some 53) (v := ?_) (a' := ?_) #[true, true, true, true, true, true, true, true, true, true, false, false, false, false, false, false, false, false] rfl rfl (any_of HT_.out (by kernel_rfl)) (fun _ _ _ h => h) (Or.inl ⟨by rfl, ?_⟩) ?_ ?_
     rotate_left
     ·
      intro w'
      go_simp
      with_reducible rfl
     rotate_left
     ·
      simp only [Act.put, sT_, s0_, sS_, i64_w, i32_w]
      rfl
     refine pure_ (i := 10) (N := some 54) (v := ?_) (a' := ?_) #[true, true, true, true, true, true, true, true, true, true, true, false, false, false, false, false, false, false] rfl rfl (any_of HT_.out (by kernel_rfl)) (fun _ _ _ h => h) (Or.inl ⟨by rfl, ?_⟩) ?_ ?_
     rotate_left
     ·
      intro w'
      go_simp
      with_reducible rfl
     rotate_left
     ·
      simp only [Act.put, sT_, s0_, sS_, i64_w, i32_w]
      rfl
     refine pure_ (i := 11) (N := some 55) (v := ?_) (a' := ?_) #[true, true, true, true, true, true, true, true, true, true, true, true, false, false, false, false, false, false] rfl rfl (any_of HT_.out (by kernel_rfl)) (fun _ _ _ h => h) (Or.inl ⟨by rfl, ?_⟩) ?_ ?_
     rotate_left
     ·
      intro w'
      go_simp
      with_reducible rfl
     rotate_left
     ·
      simp only [Act.put, sT_, s0_, sS_, i64_w, i32_w]
      rfl
     refine pure_ (i := 12) (N := some 56) (v := ?_) (a' := ?_) #[true, true, true, true, true, true, true, true, true, true, true, true, true, false, false, false, false, false] rfl rfl (any_of HT_.out (by kernel_rfl)) (fun _ _ _ h => h) (Or.inl ⟨by rfl, ?_⟩) ?_ ?_
     rotate_left
     ·
      intro w'
      go_simp
      with_reducible rfl
     rotate_left
     ·
      simp only [Act.put, sT_, s0_, sS_, i64_w, i32_w]
      rfl
     refine pure_ (i := 13) (N := some 57) (v := ?_) (a' := ?_) #[true, true, true, true, true, true, true, true, true, true, true, true, true, true, false, false, false, false] rfl rfl (any_of HT_.out (by kernel_rfl)) (fun _ _ _ h => h) (Or.inl ⟨by rfl, ?_⟩) ?_ ?_
     rotate_left
     ·
      intro w'
      go_simp
      with_reducible rfl
     rotate_left
     ·
      simp only [Act.put, sT_, s0_, sS_, i64_w, i32_w]
      rfl
     refine pure_ (i := 14) (N := some 58) (v := ?_) (a' := ?_) #[true, true, true, true, true, true, true, true, true, true, true, true, true, true, true, false, false, false] rfl rfl (any_of HT_.out (by kernel_rfl)) (fun _ _ _ h => h) (Or.inl ⟨by rfl, ?_⟩) ?_ ?_
     rotate_left
     ·
      intro w'
      go_simp
      with_reducible rfl
     rotate_left
     ·
      simp only [Act.put, sT_, s0_, sS_, i64_w, i32_w]
      rfl
     refine pure_ (i := 15) (N := some 13) (v := ?_) (a' := ?_) #[true, true, true, true, true, true, true, true, true, true, true, true, true, true, true, true, false, false] rfl rfl (any_of HT_.out (by kernel_rfl)) (fun _ _ _ h => h) (Or.inl ⟨by rfl, ?_⟩) ?_ ?_
     rotate_left
     ·
      intro w'
      go_simp
      with_reducible rfl
     rotate_left
     ·
      simp only [Act.put, sT_, s0_, sS_, i64_w, i32_w]
      rfl
     refine pure_ (i := 16) (N := some 14) (v := ?_) (a' := ?_) #[true, true, true, true, true, true, true, true, true, true, true, true, true, true, true, true, true, false] rfl rfl (any_of HT_.out (by kernel_rfl)) (fun _ _ _ h => h) (Or.inl ⟨by rfl, ?_⟩) ?_ ?_
     rotate_left
     ·
      intro w'
      go_simp
      with_reducible rfl
     rotate_left
     ·
      simp only [Act.put, sT_, s0_, sS_, i64_w, i32_w]
      rfl
     refine pure_ (i := 17) (N := some 15) (v := ?_) (a' := ?_) #[true, true, true, true, true, true, true, true, true, true, true, true, true, true, true, true, true, true] rfl rfl (any_of HT_.out (by kernel_rfl)) (fun _ _ _ h => h) (Or.inl ⟨by rfl, ?_⟩) ?_ ?_
     rotate_left
     ·
      intro w'
      go_simp
      with_reducible rfl
     rotate_left
     ·
      simp only [Act.put, sT_, s0_, sS_, i64_w, i32_w]
      rfl
     refine done_ (done_of HT_.out (by kernel_rfl)) ?_
     have hcz31_0 : w30.cell? ⟨gb101, 0, none⟩ = some (.int .i64 a0_0) := (blk_cell BK101.out 0).trans rfl
     have hcz31_1 : w30.cell? ⟨gb101, 1, none⟩ = some (.int .i64 a0_1) := (blk_cell BK101.out 1).trans rfl
     have hcz31_2 : w30.cell? ⟨gb101, 2, none⟩ = some (.int .i64 a0_2) := (blk_cell BK101.out 2).trans rfl
     have hcz31_3 : w30.cell? ⟨gb101, 3, none⟩ = some (.int .i64 a0_3) := (blk_cell BK101.out 3).trans rfl
     have hcz31_4 : w30.cell? ⟨gb101, 4, none⟩ = some (.int .i64 a0_4) := (blk_cell BK101.out 4).trans rfl
     have hcz31_5 : w30.cell? ⟨gb101, 5, none⟩ = some (.int .i64 a0_5) := (blk_cell BK101.out 5).trans rfl
     have hcz31_6 : w30.cell? ⟨gb101, 6, none⟩ = some (.int .i64 a0_6) := (blk_cell BK101.out 6).trans rfl
     have hcz31_7 : w30.cell? ⟨gb101, 7, none⟩ = some (.int .i64 a0_7) := (blk_cell BK101.out 7).trans rfl
     have hcz31_8 : w30.cell? ⟨gb101, 8, none⟩ = some (.int .i64 a0_8) := (blk_cell BK101.out 8).trans rfl
     have hfz31_0 := blk_frozen BK101.out 0
     have hfz31_1 := blk_frozen BK101.out 1
     have hfz31_2 := blk_frozen BK101.out 2
     have hfz31_3 := blk_frozen BK101.out 3
     have hfz31_4 := blk_frozen BK101.out 4
     have hfz31_5 := blk_frozen BK101.out 5
     have hfz31_6 := blk_frozen BK101.out 6
     have hfz31_7 := blk_frozen BK101.out 7
     have hfz31_8 := blk_frozen BK101.out 8
     go_upto_region 12 with (first | ((with_reducible refine gate_callee (f := 14) rfl ?_); refine goesL_ (some 81) rfl rfl Tryd.func14 (by kernel_rfl) rfl #[.agg #[.int .i64 a0_0, .int .i64 a0_1, .int .i64 a0_2, .int .i64 a0_3, .int .i64 a0_4, .int .i64 a0_5, .int .i64 a0_6, .int .i64 a0_7, .int .i64 a0_8], .slice A1 l1.length c1, .int .i64 ji20, .int .i64 (wrap64 ((wrap64 ((wrap64 ((wrap64 ((Int.tmod (wrap64 (a2)) (wrap64 (t104 + 1))) + (Int.tmod (wrap64 (a3)) (wrap64 (t104 + 1))))) + (Int.tmod (wrap64 (a4)) (wrap64 (t104 + 1))))) - (ji20))) - (ji22)))] rfl (by (try simp only [List.map_toArray, List.map_cons, List.map_nil]); first | done | (simp only [hji20, hji22]; rfl) | rfl | (simp only [List.length_drop, List.length_take]; rfl)) ?_; (with_reducible refine (burn_Sum.calls kj6 a0_0 a0_1 a0_2 a0_3 a0_4 a0_5 a0_6 a0_7 a0_8 _ _ l1 ji20 (wrap64 ((wrap64 ((wrap64 ((wrap64 ((Int.tmod (wrap64 (a2)) (wrap64 (t104 + 1))) + (Int.tmod (wrap64 (a3)) (wrap64 (t104 + 1))))) + (Int.tmod (wrap64 (a4)) (wrap64 (t104 + 1))))) - (ji20))) - (ji22))) t105 t106 t107 _ ?side1 ?side2 ?side3 A23.out).mono ?_); (case side1 => repeat (first | exact (Kd.C_below HR1.out HB.out) | (with_reducible refine Kd.C_alloc ?_ _) | (with_reducible refine Kd.C_drewN ?_ _) | (with_reducible refine Kd.C_drew ?_))); (case side2 => exact HC1.out); (case side3 => exact GlobOK.below HG.out (by repeat (first | (with_reducible first | exact HB.out | apply below_alloc | apply pw_below_drewN | apply below_drew1 | refine below_set ?_ GE101.out) | exact HB.out))); rintro e w32 ⟨rfl, hb⟩; refine ⟨_, rfl, ?_⟩; have n0_ := bb_ BK101.out hb; have n1_ := A_ (below_step (by repeat (first | (with_reducible first | exact HB.out | apply below_alloc | apply pw_below_drewN | apply below_drew1 | refine below_set ?_ GE101.out) | exact HB.out)) hb); clear BK101; clear HB; have BK101 := n0_; have HB := n1_; clear n0_ n1_; (try clear hb); (try clear hb2); (try clear hk); (try clear hi)) | ((with_reducible refine gate_dst (N := 19) rfl ?_); refine box_event ?hg (N := 19) ?hd (cs := #[.int .i64 0, .int .i64 0]) (t := 23) ?hr ?_; (case hd => rfl); (case hg => rfl); (case hr => first | (go_simp; done) | (go_simp; rfl)); intro gb108 hg w33 hbox hb; have n0_ := bb_ BK101.out hb; have n1_ := A_ (below_step (by repeat (first | (with_reducible first | exact HB.out | apply below_alloc | apply pw_below_drewN | apply below_drew1 | refine below_set ?_ GE101.out) | exact HB.out)) hb); have n2_ := A_ (hbox); have n3_ := A_ ((by rw [hg]; exact (below_size (by repeat (first | (with_reducible first | exact HB.out | apply below_alloc | apply pw_below_drewN | apply below_drew1 | refine below_set ?_ GE101.out) | exact HB.out))) : w.heap.size ≤ gb108)); have n4_ := A_ ((by rw [hg]; exact (below_size (by repeat (first | (with_reducible first | exact HB.out | apply below_alloc | apply pw_below_drewN | apply below_drew1 | refine below_set ?_ GE101.out) | exact HB.out))) : w.heap.size ≤ gb108)); have n5_ := A_ ((by rw [hg]; exact Nat.ne_of_lt (blk_lt (g := gb101) (o := .cells #[.int .i64 a0_0, .int .i64 a0_1, .int .i64 a0_2, .int .i64 a0_3, .int .i64 a0_4, .int .i64 a0_5, .int .i64 a0_6, .int .i64 a0_7, .int .i64 a0_8] 25 (0, 0)) (bk_ BK101.out)) : gb101 ≠ gb108)); have n6_ := A_ ((by rw [hg]; exact Nat.ne_of_gt (blk_lt (g := gb101) (o := .cells #[.int .i64 a0_0, .int .i64 a0_1, .int .i64 a0_2, .int .i64 a0_3, .int .i64 a0_4, .int .i64 a0_5, .int .i64 a0_6, .int .i64 a0_7, .int .i64 a0_8] 25 (0, 0)) (bk_ BK101.out)) : gb108 ≠ gb101)); clear BK101; clear HB; have BK101 := n0_; have HB := n1_; have BK108 := n2_; have GW108 := n3_; have GE108 := n4_; have NB101_108 := n5_; have NB108_101 := n6_; clear n0_ n1_ n2_ n3_ n4_ n5_ n6_; clear hb hbox hg; have hnb34 := NB108_101.out; have hnc34 := NB101_108.out; have hcz35_0 : w33.cell? ⟨gb108, 0, none⟩ = some (.int .i64 0) := (blk_cell BK108.out 0).trans rfl; have hcz35_1 : w33.cell? ⟨gb108, 1, none⟩ = some (.int .i64 0) := (blk_cell BK108.out 1).trans rfl; have hfz35_0 := blk_frozen BK108.out 0; have hfz35_1 := blk_frozen BK108.out 1; have hcz36_0 : w33.cell? ⟨gb101, 0, none⟩ = some (.int .i64 a0_0) := (blk_cell BK101.out 0).trans rfl; have hcz36_1 : w33.cell? ⟨gb101, 1, none⟩ = some (.int .i64 a0_1) := (blk_cell BK101.out 1).trans rfl; have hcz36_2 : w33.cell? ⟨gb101, 2, none⟩ = some (.int .i64 a0_2) := (blk_cell BK101.out 2).trans rfl; have hcz36_3 : w33.cell? ⟨gb101, 3, none⟩ = some (.int .i64 a0_3) := (blk_cell BK101.out 3).trans rfl; have hcz36_4 : w33.cell? ⟨gb101, 4, none⟩ = some (.int .i64 a0_4) := (blk_cell BK101.out 4).trans rfl; have hcz36_5 : w33.cell? ⟨gb101, 5, none⟩ = some (.int .i64 a0_5) := (blk_cell BK101.out 5).trans rfl; have hcz36_6 : w33.cell? ⟨gb101, 6, none⟩ = some (.int .i64 a0_6) := (blk_cell BK101.out 6).trans rfl; have hcz36_7 : w33.cell? ⟨gb101, 7, none⟩ = some (.int .i64 a0_7) := (blk_cell BK101.out 7).trans rfl; have hcz36_8 : w33.cell? ⟨gb101, 8, none⟩ = some (.int .i64 a0_8) := (blk_cell BK101.out 8).trans rfl; have hfz36_0 := blk_frozen BK101.out 0; have hfz36_1 := blk_frozen BK101.out 1; have hfz36_2 := blk_frozen BK101.out 2; have hfz36_3 := blk_frozen BK101.out 3; have hfz36_4 := blk_frozen BK101.out 4; have hfz36_5 := blk_frozen BK101.out 5; have hfz36_6 := blk_frozen BK101.out 6; have hfz36_7 := blk_frozen BK101.out 7; have hfz36_8 := blk_frozen BK101.out 8) | ((with_reducible refine gate_callee (f := 14) rfl ?_); refine goesL_ (some 89) rfl rfl Tryd.func14 (by kernel_rfl) rfl #[.agg #[.int .i64 a0_0, .int .i64 a0_1, .int .i64 a0_2, .int .i64 a0_3, .int .i64 a0_4, .int .i64 a0_5, .int .i64 a0_6, .int .i64 a0_7, .int .i64 a0_8], .slice A1 l1.length c1, .int .i64 (wrap64 ((wrap64 ((wrap64 ((wrap64 ((Int.tmod (wrap64 (a2)) (wrap64 (t104 + 1))) + (Int.tmod (wrap64 (a3)) (wrap64 (t104 + 1))))) + (Int.tmod (wrap64 (a4)) (wrap64 (t104 + 1))))) - (ji20))) - (ji22))), .int .i64 ji22] rfl (by (try simp only [List.map_toArray, List.map_cons, List.map_nil]); first | done | (simp only [hji20, hji22]; rfl) | rfl | (simp only [List.length_drop, List.length_take]; rfl)) ?_; (with_reducible refine (burn_Sum.calls kj6 a0_0 a0_1 a0_2 a0_3 a0_4 a0_5 a0_6 a0_7 a0_8 _ _ l1 (wrap64 ((wrap64 ((wrap64 ((wrap64 ((Int.tmod (wrap64 (a2)) (wrap64 (t104 + 1))) + (Int.tmod (wrap64 (a3)) (wrap64 (t104 + 1))))) + (Int.tmod (wrap64 (a4)) (wrap64 (t104 + 1))))) - (ji20))) - (ji22))) ji22 t109 t110 t111 _ ?side1 ?side2 ?side3 A24.out).mono ?_); (case side1 => exact Kd.C_below HR1.out (by repeat (first | (with_reducible first | exact HB.out | apply below_alloc | apply pw_below_drewN | apply below_drew1 | refine below_set ?_ GE101.out | refine below_set ?_ GE108.out) | exact HB.out))); (case side2 => exact HC1.out); (case side3 => exact GlobOK.below HG.out (by repeat (first | (with_reducible first | exact HB.out | apply below_alloc | apply pw_below_drewN | apply below_drew1 | refine below_set ?_ GE101.out | refine below_set ?_ GE108.out) | exact HB.out))); rintro e w37 ⟨rfl, hb⟩; refine ⟨_, rfl, ?_⟩; have n0_ := A_ (blk_below (g := gb101) (o := .cells #[.int .i64 a0_0, .int .i64 a0_1, .int .i64 a0_2, .int .i64 a0_3, .int .i64 a0_4, .int .i64 a0_5, .int .i64 a0_6, .int .i64 a0_7, .int .i64 a0_8] 25 (0, 0)) (by (with_reducible repeat (first | refine blk_drewN ?_ _ | refine blk_drew ?_ | refine blk_alloc ?_ _)); refine blk_far ?_ NB101_108.out _; (with_reducible repeat (first | refine blk_drewN ?_ _ | refine blk_drew ?_ | refine blk_alloc ?_ _)); refine blk_far ?_ NB101_108.out _; (with_reducible repeat (first | refine blk_drewN ?_ _ | refine blk_drew ?_ | refine blk_alloc ?_ _)); exact BK101.out) hb); have n1_ := A_ (blk_below (g := gb108) (o := .cells #[.int .i64 t105, .int .i64 t106] 23 (0, 0)) (by (with_reducible repeat (first | refine blk_drewN ?_ _ | refine blk_drew ?_ | refine blk_alloc ?_ _)); refine blk_put (cs := #[.int .i64 t105, .int .i64 0]) ?_ 1 _ rfl; (with_reducible repeat (first | refine blk_drewN ?_ _ | refine blk_drew ?_ | refine blk_alloc ?_ _)); refine blk_put (cs := #[.int .i64 0, .int .i64 0]) ?_ 0 _ rfl; (with_reducible repeat (first | refine blk_drewN ?_ _ | refine blk_drew ?_ | refine blk_alloc ?_ _)); exact BK108.out) hb); have n2_ := A_ (below_step (by repeat (first | (with_reducible first | exact HB.out | apply below_alloc | apply pw_below_drewN | apply below_drew1 | refine below_set ?_ GE101.out | refine below_set ?_ GE108.out) | exact HB.out)) hb); clear BK101; clear BK108; clear HB; have BK101 := n0_; have BK108 := n1_; have HB := n2_; clear n0_ n1_ n2_; (try clear hb); (try clear hb2); (try clear hk); (try clear hi)) | ((with_reducible refine gate_dst (N := 21) rfl ?_); refine box_event ?hg (N := 21) ?hd (cs := #[.int .i64 0, .int .i64 0]) (t := 23) ?hr ?_; (case hd => rfl); (case hg => rfl); (case hr => first | (go_simp; done) | (go_simp; rfl)); intro gb112 hg w38 hbox hb; have n0_ := bb_ BK101.out hb; have n1_ := bb_ BK108.out hb; have n2_ := A_ (below_step (by repeat (first | (with_reducible first | exact HB.out | apply below_alloc | apply pw_below_drewN | apply below_drew1 | refine below_set ?_ GE101.out | refine below_set ?_ GE108.out) | exact HB.out)) hb); have n3_ := A_ (hbox); have n4_ := A_ ((by rw [hg]; exact (below_size (by repeat (first | (with_reducible first | exact HB.out | apply below_alloc | apply pw_below_drewN | apply below_drew1 | refine below_set ?_ GE101.out | refine below_set ?_ GE108.out) | exact HB.out))) : w.heap.size ≤ gb112)); have n5_ := A_ ((by rw [hg]; exact (below_size (by repeat (first | (with_reducible first | exact HB.out | apply below_alloc | apply pw_below_drewN | apply below_drew1 | refine below_set ?_ GE101.out | refine below_set ?_ GE108.out) | exact HB.out))) : w.heap.size ≤ gb112)); have n6_ := A_ ((by rw [hg]; exact Nat.ne_of_lt (blk_lt (g := gb101) (o := .cells #[.int .i64 a0_0, .int .i64 a0_1, .int .i64 a0_2, .int .i64 a0_3, .int .i64 a0_4, .int .i64 a0_5, .int .i64 a0_6, .int .i64 a0_7, .int .i64 a0_8] 25 (0, 0)) (bk_ BK101.out)) : gb101 ≠ gb112)); have n7_ := A_ ((by rw [hg]; exact Nat.ne_of_gt (blk_lt (g := gb101) (o := .cells #[.int .i64 a0_0, .int .i64 a0_1, .int .i64 a0_2, .int .i64 a0_3, .int .i64 a0_4, .int .i64 a0_5, .int .i64 a0_6, .int .i64 a0_7, .int .i64 a0_8] 25 (0, 0)) (bk_ BK101.out)) : gb112 ≠ gb101)); have n8_ := A_ ((by rw [hg]; exact Nat.ne_of_lt (blk_lt (g := gb108) (o := .cells #[.int .i64 t105, .int .i64 t106] 23 (0, 0)) (bk_ BK108.out)) : gb108 ≠ gb112)); have n9_ := A_ ((by rw [hg]; exact Nat.ne_of_gt (blk_lt (g := gb108) (o := .cells #[.int .i64 t105, .int .i64 t106] 23 (0, 0)) (bk_ BK108.out)) : gb112 ≠ gb108)); clear BK101; clear BK108; clear HB; have BK101 := n0_; have BK108 := n1_; have HB := n2_; have BK112 := n3_; have GW112 := n4_; have GE112 := n5_; have NB101_112 := n6_; have NB112_101 := n7_; have NB108_112 := n8_; have NB112_108 := n9_; clear n0_ n1_ n2_ n3_ n4_ n5_ n6_ n7_ n8_ n9_; clear hb hbox hg; have hnb39 := NB112_101.out; have hnc39 := NB101_112.out; have hnb40 := NB112_108.out; have hnc40 := NB108_112.out; have hcz41_0 : w38.cell? ⟨gb112, 0, none⟩ = some (.int .i64 0) := (blk_cell BK112.out 0).trans rfl; have hcz41_1 : w38.cell? ⟨gb112, 1, none⟩ = some (.int .i64 0) := (blk_cell BK112.out 1).trans rfl; have hfz41_0 := blk_frozen BK112.out 0; have hfz41_1 := blk_frozen BK112.out 1; have hcz42_0 : w38.cell? ⟨gb101, 0, none⟩ = some (.int .i64 a0_0) := (blk_cell BK101.out 0).trans rfl; have hcz42_1 : w38.cell? ⟨gb101, 1, none⟩ = some (.int .i64 a0_1) := (blk_cell BK101.out 1).trans rfl; have hcz42_2 : w38.cell? ⟨gb101, 2, none⟩ = some (.int .i64 a0_2) := (blk_cell BK101.out 2).trans rfl; have hcz42_3 : w38.cell? ⟨gb101, 3, none⟩ = some (.int .i64 a0_3) := (blk_cell BK101.out 3).trans rfl; have hcz42_4 : w38.cell? ⟨gb101, 4, none⟩ = some (.int .i64 a0_4) := (blk_cell BK101.out 4).trans rfl; have hcz42_5 : w38.cell? ⟨gb101, 5, none⟩ = some (.int .i64 a0_5) := (blk_cell BK101.out 5).trans rfl; have hcz42_6 : w38.cell? ⟨gb101, 6, none⟩ = some (.int .i64 a0_6) := (blk_cell BK101.out 6).trans rfl; have hcz42_7 : w38.cell? ⟨gb101, 7, none⟩ = some (.int .i64 a0_7) := (blk_cell BK101.out 7).trans rfl; have hcz42_8 : w38.cell? ⟨gb101, 8, none⟩ = some (.int .i64 a0_8) := (blk_cell BK101.out 8).trans rfl; have hfz42_0 := blk_frozen BK101.out 0; have hfz42_1 := blk_frozen BK101.out 1; have hfz42_2 := blk_frozen BK101.out 2; have hfz42_3 := blk_frozen BK101.out 3; have hfz42_4 := blk_frozen BK101.out 4; have hfz42_5 := blk_frozen BK101.out 5; have hfz42_6 := blk_frozen BK101.out 6; have hfz42_7 := blk_frozen BK101.out 7; have hfz42_8 := blk_frozen BK101.out 8) | ((with_reducible refine gate_callee (f := 14) rfl ?_); refine goesL_ (some 97) rfl rfl Tryd.func14 (by kernel_rfl) rfl #[.agg #[.int .i64 a0_0, .int .i64 a0_1, .int .i64 a0_2, .int .i64 a0_3, .int .i64 a0_4, .int .i64 a0_5, .int .i64 a0_6, .int .i64 a0_7, .int .i64 a0_8], .slice A1 l1.length c1, .int .i64 ji20, .int .i64 ji22] rfl (by (try simp only [List.map_toArray, List.map_cons, List.map_nil]); first | done | (simp only [hji20, hji22]; rfl) | rfl | (simp only [List.length_drop, List.length_take]; rfl)) ?_; (with_reducible refine (burn_Sum.calls kj6 a0_0 a0_1 a0_2 a0_3 a0_4 a0_5 a0_6 a0_7 a0_8 _ _ l1 ji20 ji22 t113 t114 t115 _ ?side1 ?side2 ?side3 A25.out).mono ?_); (case side1 => exact Kd.C_below HR1.out (by repeat (first | (with_reducible first | exact HB.out | apply below_alloc | apply pw_below_drewN | apply below_drew1 | refine below_set ?_ GE101.out | refine below_set ?_ GE108.out | refine below_set ?_ GE112.out) | exact HB.out))); (case side2 => exact HC1.out); (case side3 => exact GlobOK.below HG.out (by repeat (first | (with_reducible first | exact HB.out | apply below_alloc | apply pw_below_drewN | apply below_drew1 | refine below_set ?_ GE101.out | refine below_set ?_ GE108.out | refine below_set ?_ GE112.out) | exact HB.out))); rintro e w43 ⟨rfl, hb⟩; refine ⟨_, rfl, ?_⟩; have n0_ := A_ (blk_below (g := gb101) (o := .cells #[.int .i64 a0_0, .int .i64 a0_1, .int .i64 a0_2, .int .i64 a0_3, .int .i64 a0_4, .int .i64 a0_5, .int .i64 a0_6, .int .i64 a0_7, .int .i64 a0_8] 25 (0, 0)) (by (with_reducible repeat (first | refine blk_drewN ?_ _ | refine blk_drew ?_ | refine blk_alloc ?_ _)); refine blk_far ?_ NB101_112.out _; (with_reducible repeat (first | refine blk_drewN ?_ _ | refine blk_drew ?_ | refine blk_alloc ?_ _)); refine blk_far ?_ NB101_112.out _; (with_reducible repeat (first | refine blk_drewN ?_ _ | refine blk_drew ?_ | refine blk_alloc ?_ _)); exact BK101.out) hb); have n1_ := A_ (blk_below (g := gb108) (o := .cells #[.int .i64 t105, .int .i64 t106] 23 (0, 0)) (by (with_reducible repeat (first | refine blk_drewN ?_ _ | refine blk_drew ?_ | refine blk_alloc ?_ _)); refine blk_far ?_ NB108_112.out _; (with_reducible repeat (first | refine blk_drewN ?_ _ | refine blk_drew ?_ | refine blk_alloc ?_ _)); refine blk_far ?_ NB108_112.out _; (with_reducible repeat (first | refine blk_drewN ?_ _ | refine blk_drew ?_ | refine blk_alloc ?_ _)); exact BK108.out) hb); have n2_ := A_ (blk_below (g := gb112) (o := .cells #[.int .i64 t109, .int .i64 t110] 23 (0, 0)) (by (with_reducible repeat (first | refine blk_drewN ?_ _ | refine blk_drew ?_ | refine blk_alloc ?_ _)); refine blk_put (cs := #[.int .i64 t109, .int .i64 0]) ?_ 1 _ rfl; (with_reducible repeat (first | refine blk_drewN ?_ _ | refine blk_drew ?_ | refine blk_alloc ?_ _)); refine blk_put (cs := #[.int .i64 0, .int .i64 0]) ?_ 0 _ rfl; (with_reducible repeat (first | refine blk_drewN ?_ _ | refine blk_drew ?_ | refine blk_alloc ?_ _)); exact BK112.out) hb); have n3_ := A_ (below_step (by repeat (first | (with_reducible first | exact HB.out | apply below_alloc | apply pw_below_drewN | apply below_drew1 | refine below_set ?_ GE101.out | refine below_set ?_ GE108.out | refine below_set ?_ GE112.out) | exact HB.out)) hb); clear BK101; clear BK108; clear BK112; clear HB; have BK101 := n0_; have BK108 := n1_; have BK112 := n2_; have HB := n3_; clear n0_ n1_ n2_ n3_; (try clear hb); (try clear hb2); (try clear hk); (try clear hi)) | ((with_reducible refine gate_dst (N := 23) rfl ?_); refine box_event ?hg (N := 23) ?hd (cs := #[.int .i64 0, .int .i64 0]) (t := 23) ?hr ?_; (case hd => rfl); (case hg => rfl); (case hr => first | (go_simp; done) | (go_simp; rfl)); intro gb116 hg w44 hbox hb; have n0_ := bb_ BK101.out hb; have n1_ := bb_ BK108.out hb; have n2_ := bb_ BK112.out hb; have n3_ := A_ (below_step (by repeat (first | (with_reducible first | exact HB.out | apply below_alloc | apply pw_below_drewN | apply below_drew1 | refine below_set ?_ GE101.out | refine below_set ?_ GE108.out | refine below_set ?_ GE112.out) | exact HB.out)) hb); have n4_ := A_ (hbox); have n5_ := A_ ((by rw [hg]; exact (below_size (by repeat (first | (with_reducible first | exact HB.out | apply below_alloc | apply pw_below_drewN | apply below_drew1 | refine below_set ?_ GE101.out | refine below_set ?_ GE108.out | refine below_set ?_ GE112.out) | exact HB.out))) : w.heap.size ≤ gb116)); have n6_ := A_ ((by rw [hg]; exact (below_size (by repeat (first | (with_reducible first | exact HB.out | apply below_alloc | apply pw_below_drewN | apply below_drew1 | refine below_set ?_ GE101.out | refine below_set ?_ GE108.out | refine below_set ?_ GE112.out) | exact HB.out))) : w.heap.size ≤ gb116)); have n7_ := A_ ((by rw [hg]; exact Nat.ne_of_lt (blk_lt (g := gb101) (o := .cells #[.int .i64 a0_0, .int .i64 a0_1, .int .i64 a0_2, .int .i64 a0_3, .int .i64 a0_4, .int .i64 a0_5, .int .i64 a0_6, .int .i64 a0_7, .int .i64 a0_8] 25 (0, 0)) (bk_ BK101.out)) : gb101 ≠ gb116)); have n8_ := A_ ((by rw [hg]; exact Nat.ne_of_gt (blk_lt (g := gb101) (o := .cells #[.int .i64 a0_0, .int .i64 a0_1, .int .i64 a0_2, .int .i64 a0_3, .int .i64 a0_4, .int .i64 a0_5, .int .i64 a0_6, .int .i64 a0_7, .int .i64 a0_8] 25 (0, 0)) (bk_ BK101.out)) : gb116 ≠ gb101)); have n9_ := A_ ((by rw [hg]; exact Nat.ne_of_lt (blk_lt (g := gb108) (o := .cells #[.int .i64 t105, .int .i64 t106] 23 (0, 0)) (bk_ BK108.out)) : gb108 ≠ gb116)); have n10_ := A_ ((by rw [hg]; exact Nat.ne_of_gt (blk_lt (g := gb108) (o := .cells #[.int .i64 t105, .int .i64 t106] 23 (0, 0)) (bk_ BK108.out)) : gb116 ≠ gb108)); have n11_ := A_ ((by rw [hg]; exact Nat.ne_of_lt (blk_lt (g := gb112) (o := .cells #[.int .i64 t109, .int .i64 t110] 23 (0, 0)) (bk_ BK112.out)) : gb112 ≠ gb116)); have n12_ := A_ ((by rw [hg]; exact Nat.ne_of_gt (blk_lt (g := gb112) (o := .cells #[.int .i64 t109, .int .i64 t110] 23 (0, 0)) (bk_ BK112.out)) : gb116 ≠ gb112)); clear BK101; clear BK108; clear BK112; clear HB; have BK101 := n0_; have BK108 := n1_; have BK112 := n2_; have HB := n3_; have BK116 := n4_; have GW116 := n5_; have GE116 := n6_; have NB101_116 := n7_; have NB116_101 := n8_; have NB108_116 := n9_; have NB116_108 := n10_; have NB112_116 := n11_; have NB116_112 := n12_; clear n0_ n1_ n2_ n3_ n4_ n5_ n6_ n7_ n8_ n9_ n10_ n11_ n12_; clear hb hbox hg; have hnb45 := NB116_101.out; have hnc45 := NB101_116.out; have hnb46 := NB116_108.out; have hnc46 := NB108_116.out; have hnb47 := NB116_112.out; have hnc47 := NB112_116.out; have hcz48_0 : w44.cell? ⟨gb116, 0, none⟩ = some (.int .i64 0) := (blk_cell BK116.out 0).trans rfl; have hcz48_1 : w44.cell? ⟨gb116, 1, none⟩ = some (.int .i64 0) := (blk_cell BK116.out 1).trans rfl; have hfz48_0 := blk_frozen BK116.out 0; have hfz48_1 := blk_frozen BK116.out 1; have hcz49_0 : w44.cell? ⟨gb101, 0, none⟩ = some (.int .i64 a0_0) := (blk_cell BK101.out 0).trans rfl; have hcz49_1 : w44.cell? ⟨gb101, 1, none⟩ = some (.int .i64 a0_1) := (blk_cell BK101.out 1).trans rfl; have hcz49_2 : w44.cell? ⟨gb101, 2, none⟩ = some (.int .i64 a0_2) := (blk_cell BK101.out 2).trans rfl; have hcz49_3 : w44.cell? ⟨gb101, 3, none⟩ = some (.int .i64 a0_3) := (blk_cell BK101.out 3).trans rfl; have hcz49_4 : w44.cell? ⟨gb101, 4, none⟩ = some (.int .i64 a0_4) := (blk_cell BK101.out 4).trans rfl; have hcz49_5 : w44.cell? ⟨gb101, 5, none⟩ = some (.int .i64 a0_5) := (blk_cell BK101.out 5).trans rfl; have hcz49_6 : w44.cell? ⟨gb101, 6, none⟩ = some (.int .i64 a0_6) := (blk_cell BK101.out 6).trans rfl; have hcz49_7 : w44.cell? ⟨gb101, 7, none⟩ = some (.int .i64 a0_7) := (blk_cell BK101.out 7).trans rfl; have hcz49_8 : w44.cell? ⟨gb101, 8, none⟩ = some (.int .i64 a0_8) := (blk_cell BK101.out 8).trans rfl; have hfz49_0 := blk_frozen BK101.out 0; have hfz49_1 := blk_frozen BK101.out 1; have hfz49_2 := blk_frozen BK101.out 2; have hfz49_3 := blk_frozen BK101.out 3; have hfz49_4 := blk_frozen BK101.out 4; have hfz49_5 := blk_frozen BK101.out 5; have hfz49_6 := blk_frozen BK101.out 6; have hfz49_7 := blk_frozen BK101.out 7; have hfz49_8 := blk_frozen BK101.out 8) | ((with_reducible refine gate_callee (f := 14) rfl ?_); refine goesL_ (some 105) rfl rfl Tryd.func14 (by kernel_rfl) rfl #[.agg #[.int .i64 a0_0, .int .i64 a0_1, .int .i64 a0_2, .int .i64 a0_3, .int .i64 a0_4, .int .i64 a0_5, .int .i64 a0_6, .int .i64 a0_7, .int .i64 a0_8], .slice A1 l1.length c1, .int .i64 (wrap64 ((wrap64 ((wrap64 ((wrap64 ((Int.tmod (wrap64 (a2)) (wrap64 (t104 + 1))) + (Int.tmod (wrap64 (a3)) (wrap64 (t104 + 1))))) + (Int.tmod (wrap64 (a4)) (wrap64 (t104 + 1))))) - (ji20))) - (ji22))), .int .i64 (wrap64 ((wrap64 ((wrap64 ((wrap64 ((Int.tmod (wrap64 (a2)) (wrap64 (t104 + 1))) + (Int.tmod (wrap64 (a3)) (wrap64 (t104 + 1))))) + (Int.tmod (wrap64 (a4)) (wrap64 (t104 + 1))))) - (ji20))) - (ji22)))] rfl (by (try simp only [List.map_toArray, List.map_cons, List.map_nil]); first | done | (simp only [hji20, hji22]; rfl) | rfl | (simp only [List.length_drop, List.length_take]; rfl)) ?_; (with_reducible refine (burn_Sum.calls kj6 a0_0 a0_1 a0_2 a0_3 a0_4 a0_5 a0_6 a0_7 a0_8 _ _ l1 (wrap64 ((wrap64 ((wrap64 ((wrap64 ((Int.tmod (wrap64 (a2)) (wrap64 (t104 + 1))) + (Int.tmod (wrap64 (a3)) (wrap64 (t104 + 1))))) + (Int.tmod (wrap64 (a4)) (wrap64 (t104 + 1))))) - (ji20))) - (ji22))) (wrap64 ((wrap64 ((wrap64 ((wrap64 ((Int.tmod (wrap64 (a2)) (wrap64 (t104 + 1))) + (Int.tmod (wrap64 (a3)) (wrap64 (t104 + 1))))) + (Int.tmod (wrap64 (a4)) (wrap64 (t104 + 1))))) - (ji20))) - (ji22))) t117 t118 t119 _ ?side1 ?side2 ?side3 A26.out).mono ?_); (case side1 => exact Kd.C_below HR1.out (by repeat (first | (with_reducible first | exact HB.out | apply below_alloc | apply pw_below_drewN | apply below_drew1 | refine below_set ?_ GE101.out | refine below_set ?_ GE108.out | refine below_set ?_ GE112.out | refine below_set ?_ GE116.out) | exact HB.out))); (case side2 => exact HC1.out); (case side3 => exact GlobOK.below HG.out (by repeat (first | (with_reducible first | exact HB.out | apply below_alloc | apply pw_below_drewN | apply below_drew1 | refine below_set ?_ GE101.out | refine below_set ?_ GE108.out | refine below_set ?_ GE112.out | refine below_set ?_ GE116.out) | exact HB.out))); rintro e w50 ⟨rfl, hb⟩; refine ⟨_, rfl, ?_⟩; have n0_ := A_ (blk_below (g := gb101) (o := .cells #[.int .i64 a0_0, .int .i64 a0_1, .int .i64 a0_2, .int .i64 a0_3, .int .i64 a0_4, .int .i64 a0_5, .int .i64 a0_6, .int .i64 a0_7, .int .i64 a0_8] 25 (0, 0)) (by (with_reducible repeat (first | refine blk_drewN ?_ _ | refine blk_drew ?_ | refine blk_alloc ?_ _)); refine blk_far ?_ NB101_116.out _; (with_reducible repeat (first | refine blk_drewN ?_ _ | refine blk_drew ?_ | refine blk_alloc ?_ _)); refine blk_far ?_ NB101_116.out _; (with_reducible repeat (first | refine blk_drewN ?_ _ | refine blk_drew ?_ | refine blk_alloc ?_ _)); exact BK101.out) hb); have n1_ := A_ (blk_below (g := gb108) (o := .cells #[.int .i64 t105, .int .i64 t106] 23 (0, 0)) (by (with_reducible repeat (first | refine blk_drewN ?_ _ | refine blk_drew ?_ | refine blk_alloc ?_ _)); refine blk_far ?_ NB108_116.out _; (with_reducible repeat (first | refine blk_drewN ?_ _ | refine blk_drew ?_ | refine blk_alloc ?_ _)); refine blk_far ?_ NB108_116.out _; (with_reducible repeat (first | refine blk_drewN ?_ _ | refine blk_drew ?_ | refine blk_alloc ?_ _)); exact BK108.out) hb); have n2_ := A_ (blk_below (g := gb112) (o := .cells #[.int .i64 t109, .int .i64 t110] 23 (0, 0)) (by (with_reducible repeat (first | refine blk_drewN ?_ _ | refine blk_drew ?_ | refine blk_alloc ?_ _)); refine blk_far ?_ NB112_116.out _; (with_reducible repeat (first | refine blk_drewN ?_ _ | refine blk_drew ?_ | refine blk_alloc ?_ _)); refine blk_far ?_ NB112_116.out _; (with_reducible repeat (first | refine blk_drewN ?_ _ | refine blk_drew ?_ | refine blk_alloc ?_ _)); exact BK112.out) hb); have n3_ := A_ (blk_below (g := gb116) (o := .cells #[.int .i64 t113, .int .i64 t114] 23 (0, 0)) (by (with_reducible repeat (first | refine blk_drewN ?_ _ | refine blk_drew ?_ | refine blk_alloc ?_ _)); refine blk_put (cs := #[.int .i64 t113, .int .i64 0]) ?_ 1 _ rfl; (with_reducible repeat (first | refine blk_drewN ?_ _ | refine blk_drew ?_ | refine blk_alloc ?_ _)); refine blk_put (cs := #[.int .i64 0, .int .i64 0]) ?_ 0 _ rfl; (with_reducible repeat (first | refine blk_drewN ?_ _ | refine blk_drew ?_ | refine blk_alloc ?_ _)); exact BK116.out) hb); have n4_ := A_ (below_step (by repeat (first | (with_reducible first | exact HB.out | apply below_alloc | apply pw_below_drewN | apply below_drew1 | refine below_set ?_ GE101.out | refine below_set ?_ GE108.out | refine below_set ?_ GE112.out | refine below_set ?_ GE116.out) | exact HB.out)) hb); clear BK101; clear BK108; clear BK112; clear BK116; clear HB; have BK101 := n0_; have BK108 := n1_; have BK112 := n2_; have BK116 := n3_; have HB := n4_; clear n0_ n1_ n2_ n3_ n4_; (try clear hb); (try clear hb2); (try clear hk); (try clear hi)) | ((with_reducible refine gate_dst (N := 25) rfl ?_); refine box_event ?hg (N := 25) ?hd (cs := #[.int .i64 0, .int .i64 0]) (t := 23) ?hr ?_; (case hd => rfl); (case hg => rfl); (case hr => first | (go_simp; done) | (go_simp; rfl)); intro gb120 hg w51 hbox hb; have n0_ := bb_ BK101.out hb; have n1_ := bb_ BK108.out hb; have n2_ := bb_ BK112.out hb; have n3_ := bb_ BK116.out hb; have n4_ := A_ (below_step (by repeat (first | (with_reducible first | exact HB.out | apply below_alloc | apply pw_below_drewN | apply below_drew1 | refine below_set ?_ GE101.out | refine below_set ?_ GE108.out | refine below_set ?_ GE112.out | refine below_set ?_ GE116.out) | exact HB.out)) hb); have n5_ := A_ (hbox); have n6_ := A_ ((by rw [hg]; exact (below_size (by repeat (first | (with_reducible first | exact HB.out | apply below_alloc | apply pw_below_drewN | apply below_drew1 | refine below_set ?_ GE101.out | refine below_set ?_ GE108.out | refine below_set ?_ GE112.out | refine below_set ?_ GE116.out) | exact HB.out))) : w.heap.size ≤ gb120)); have n7_ := A_ ((by rw [hg]; exact (below_size (by repeat (first | (with_reducible first | exact HB.out | apply below_alloc | apply pw_below_drewN | apply below_drew1 | refine below_set ?_ GE101.out | refine below_set ?_ GE108.out | refine below_set ?_ GE112.out | refine below_set ?_ GE116.out) | exact HB.out))) : w.heap.size ≤ gb120)); have n8_ := A_ ((by rw [hg]; exact Nat.ne_of_lt (blk_lt (g := gb101) (o := .cells #[.int .i64 a0_0, .int .i64 a0_1, .int .i64 a0_2, .int .i64 a0_3, .int .i64 a0_4, .int .i64 a0_5, .int .i64 a0_6, .int .i64 a0_7, .int .i64 a0_8] 25 (0, 0)) (bk_ BK101.out)) : gb101 ≠ gb120)); have n9_ := A_ ((by rw [hg]; exact Nat.ne_of_gt (blk_lt (g := gb101) (o := .cells #[.int .i64 a0_0, .int .i64 a0_1, .int .i64 a0_2, .int .i64 a0_3, .int .i64 a0_4, .int .i64 a0_5, .int .i64 a0_6, .int .i64 a0_7, .int .i64 a0_8] 25 (0, 0)) (bk_ BK101.out)) : gb120 ≠ gb101)); have n10_ := A_ ((by rw [hg]; exact Nat.ne_of_lt (blk_lt (g := gb108) (o := .cells #[.int .i64 t105, .int .i64 t106] 23 (0, 0)) (bk_ BK108.out)) : gb108 ≠ gb120)); have n11_ := A_ ((by rw [hg]; exact Nat.ne_of_gt (blk_lt (g := gb108) (o := .cells #[.int .i64 t105, .int .i64 t106] 23 (0, 0)) (bk_ BK108.out)) : gb120 ≠ gb108)); have n12_ := A_ ((by rw [hg]; exact Nat.ne_of_lt (blk_lt (g := gb112) (o := .cells #[.int .i64 t109, .int .i64 t110] 23 (0, 0)) (bk_ BK112.out)) : gb112 ≠ gb120)); have n13_ := A_ ((by rw [hg]; exact Nat.ne_of_gt (blk_lt (g := gb112) (o := .cells #[.int .i64 t109, .int .i64 t110] 23 (0, 0)) (bk_ BK112.out)) : gb120 ≠ gb112)); have n14_ := A_ ((by rw [hg]; exact Nat.ne_of_lt (blk_lt (g := gb116) (o := .cells #[.int .i64 t113, .int .i64 t114] 23 (0, 0)) (bk_ BK116.out)) : gb116 ≠ gb120)); have n15_ := A_ ((by rw [hg]; exact Nat.ne_of_gt (blk_lt (g := gb116) (o := .cells #[.int .i64 t113, .int .i64 t114] 23 (0, 0)) (bk_ BK116.out)) : gb120 ≠ gb116)); clear BK101; clear BK108; clear BK112; clear BK116; clear HB; have BK101 := n0_; have BK108 := n1_; have BK112 := n2_; have BK116 := n3_; have HB := n4_; have BK120 := n5_; have GW120 := n6_; have GE120 := n7_; have NB101_120 := n8_; have NB120_101 := n9_; have NB108_120 := n10_; have NB120_108 := n11_; have NB112_120 := n12_; have NB120_112 := n13_; have NB116_120 := n14_; have NB120_116 := n15_; clear n0_ n1_ n2_ n3_ n4_ n5_ n6_ n7_ n8_ n9_ n10_ n11_ n12_ n13_ n14_ n15_; clear hb hbox hg; have hnb52 := NB120_101.out; have hnc52 := NB101_120.out; have hnb53 := NB120_108.out; have hnc53 := NB108_120.out; have hnb54 := NB120_112.out; have hnc54 := NB112_120.out; have hnb55 := NB120_116.out; have hnc55 := NB116_120.out; have hcz56_0 : w51.cell? ⟨gb120, 0, none⟩ = some (.int .i64 0) := (blk_cell BK120.out 0).trans rfl; have hcz56_1 : w51.cell? ⟨gb120, 1, none⟩ = some (.int .i64 0) := (blk_cell BK120.out 1).trans rfl; have hfz56_0 := blk_frozen BK120.out 0; have hfz56_1 := blk_frozen BK120.out 1))
     (try simp only [Act.put, List.setIfInBounds_toArray, List.set_cons_zero, List.set_cons_succ])
     go_cut [146] (fun v146 wc => ∃ (kq : Nat) (x146_26 : Bool), v146 = .bool x146_26 ∧ Aside0 (cottonpadlaw04_BurnClosed.j1 kq l1 t102 t104 (wrap64 ((wrap64 ((wrap64 ((wrap64 ((Int.tmod (wrap64 (a2)) (wrap64 (t104 + 1))) + (Int.tmod (wrap64 (a3)) (wrap64 (t104 + 1))))) + (Int.tmod (wrap64 (a4)) (wrap64 (t104 + 1))))) - (ji20))) - (ji22))) x146_26 a0_0 a0_1 a0_2 a0_3 a0_4 a0_5 a0_6 a0_7 a0_8 t105 t106 t109 t110 t113 t114 = some r) ∧ Aside0 (kq ≤ kj6) ∧ Aside0 (wc.heap[gb101]? = some (.cells #[.int .i64 a0_0, .int .i64 a0_1, .int .i64 a0_2, .int .i64 a0_3, .int .i64 a0_4, .int .i64 a0_5, .int .i64 a0_6, .int .i64 a0_7, .int .i64 a0_8] 25 (0, 0))) ∧ Aside0 (wc.heap[gb108]? = some (.cells #[.int .i64 t105, .int .i64 t106] 23 (0, 0))) ∧ Aside0 (wc.heap[gb112]? = some (.cells #[.int .i64 t109, .int .i64 t110] 23 (0, 0))) ∧ Aside0 (wc.heap[gb116]? = some (.cells #[.int .i64 t113, .int .i64 t114] 23 (0, 0))) ∧ Aside0 (wc.heap[gb120]? = some (.cells #[.int .i64 t117, .int .i64 t118] 23 (0, 0))) ∧ Aside0 (Below w.heap.size w wc))
     case first =>
      have H := HC27.out
      clear HC27
      by_cases c57 : t107 = 0
      ·
       rw [if_pos c57] at H
       have c57b0 : (t107 == 0) = true := beq_iff_eq.mpr c57
       have c57b1 : (t107 != 0) = false := bne_eq_false_iff_eq.mpr c57
       clear c57
       (first | rw [c57b0] | (simp only [i64_w, i32_w]; rw [c57b0]) | skip)
       by_cases c58 : t111 = 0
       ·
        rw [if_pos c58] at H
        have c58b0 : (t111 == 0) = true := beq_iff_eq.mpr c58
        have c58b1 : (t111 != 0) = false := bne_eq_false_iff_eq.mpr c58
        clear c58
        by_cases c59 : t115 = 0
        ·
         rw [if_pos c59] at H
         have c59b0 : (t115 == 0) = true := beq_iff_eq.mpr c59
         have c59b1 : (t115 != 0) = false := bne_eq_false_iff_eq.mpr c59
         clear c59
         by_cases c60 : t119 = 0
         ·
          rw [if_pos c60] at H
          have c60b0 : (t119 == 0) = true := beq_iff_eq.mpr c60
          have c60b1 : (t119 != 0) = false := bne_eq_false_iff_eq.mpr c60
          clear c60
          by_cases c61 : (!(t117 == 0) || (!(t118 == 0))) = true
          ·
           rw [if_pos c61] at H
           have c61b0 : (!(t117 == 0) || (!(t118 == 0))) = true := c61
           clear c61
           have H' := A_ H
           clear H
           have hnb62 := NB120_101.out
           have hnc62 := NB101_120.out
           have hnb63 := NB120_108.out
           have hnc63 := NB108_120.out
           have hnb64 := NB120_112.out
           have hnc64 := NB112_120.out
           have hnb65 := NB120_116.out
           have hnc65 := NB116_120.out
           have hcz66_0 : w51.cell? ⟨gb120, 0, none⟩ = some (.int .i64 0) := (blk_cell BK120.out 0).trans rfl
           have hcz66_1 : w51.cell? ⟨gb120, 1, none⟩ = some (.int .i64 0) := (blk_cell BK120.out 1).trans rfl
           have hfz66_0 := blk_frozen BK120.out 0
           have hfz66_1 := blk_frozen BK120.out 1
           go_wp2
           go_meet
           case rel => exact ⟨_, (true), (by first | rfl | (simp; done) | (simp [*]; done)), H', ⟨by have := HJ6.out; first | omega | exact Nat.le_refl _⟩, ⟨by (with_reducible repeat (first | refine blk_drewN ?_ _ | refine blk_drew ?_ | refine blk_alloc ?_ _)); refine blk_far ?_ NB101_120.out _; (with_reducible repeat (first | refine blk_drewN ?_ _ | refine blk_drew ?_ | refine blk_alloc ?_ _)); refine blk_far ?_ NB101_120.out _; (with_reducible repeat (first | refine blk_drewN ?_ _ | refine blk_drew ?_ | refine blk_alloc ?_ _)); exact BK101.out⟩, ⟨by (with_reducible repeat (first | refine blk_drewN ?_ _ | refine blk_drew ?_ | refine blk_alloc ?_ _)); refine blk_far ?_ NB108_120.out _; (with_reducible repeat (first | refine blk_drewN ?_ _ | refine blk_drew ?_ | refine blk_alloc ?_ _)); refine blk_far ?_ NB108_120.out _; (with_reducible repeat (first | refine blk_drewN ?_ _ | refine blk_drew ?_ | refine blk_alloc ?_ _)); exact BK108.out⟩, ⟨by (with_reducible repeat (first | refine blk_drewN ?_ _ | refine blk_drew ?_ | refine blk_alloc ?_ _)); refine blk_far ?_ NB112_120.out _; (with_reducible repeat (first | refine blk_drewN ?_ _ | refine blk_drew ?_ | refine blk_alloc ?_ _)); refine blk_far ?_ NB112_120.out _; (with_reducible repeat (first | refine blk_drewN ?_ _ | refine blk_drew ?_ | refine blk_alloc ?_ _)); exact BK112.out⟩, ⟨by (with_reducible repeat (first | refine blk_drewN ?_ _ | refine blk_drew ?_ | refine blk_alloc ?_ _)); refine blk_far ?_ NB116_120.out _; (with_reducible repeat (first | refine blk_drewN ?_ _ | refine blk_drew ?_ | refine blk_alloc ?_ _)); refine blk_far ?_ NB116_120.out _; (with_reducible repeat (first | refine blk_drewN ?_ _ | refine blk_drew ?_ | refine blk_alloc ?_ _)); exact BK116.out⟩, ⟨by (with_reducible repeat (first | refine blk_drewN ?_ _ | refine blk_drew ?_ | refine blk_alloc ?_ _)); refine blk_put (cs := #[.int .i64 t117, .int .i64 0]) ?_ 1 _ rfl; (with_reducible repeat (first | refine blk_drewN ?_ _ | refine blk_drew ?_ | refine blk_alloc ?_ _)); refine blk_put (cs := #[.int .i64 0, .int .i64 0]) ?_ 0 _ rfl; (with_reducible repeat (first | refine blk_drewN ?_ _ | refine blk_drew ?_ | refine blk_alloc ?_ _)); exact BK120.out⟩, ⟨by repeat (first | (with_reducible first | exact HB.out | apply below_alloc | apply pw_below_drewN | apply below_drew1 | refine below_set ?_ GE101.out | refine below_set ?_ GE108.out | refine below_set ?_ GE112.out | refine below_set ?_ GE116.out | refine below_set ?_ GE120.out) | exact HB.out)⟩⟩
          ·
           rw [if_neg c61] at H
           have c61b0 : (!(t117 == 0) || (!(t118 == 0))) = false := by simpa using c61
           clear c61
           by_cases c67 : t113 < (wrap64 (t105 + t109))
           ·
            rw [if_pos c67] at H
            have c67b0 : decide (t113 < (wrap64 (t105 + t109))) = true := decide_eq_true c67
            clear c67
            have H' := A_ H
            clear H
            have hnb68 := NB120_101.out
            have hnc68 := NB101_120.out
            have hnb69 := NB120_108.out
            have hnc69 := NB108_120.out
            have hnb70 := NB120_112.out
            have hnc70 := NB112_120.out
            have hnb71 := NB120_116.out
            have hnc71 := NB116_120.out
            have hcz72_0 : w51.cell? ⟨gb120, 0, none⟩ = some (.int .i64 0) := (blk_cell BK120.out 0).trans rfl
            have hcz72_1 : w51.cell? ⟨gb120, 1, none⟩ = some (.int .i64 0) := (blk_cell BK120.out 1).trans rfl
            have hfz72_0 := blk_frozen BK120.out 0
            have hfz72_1 := blk_frozen BK120.out 1
            have hnb73 := NB116_101.out
            have hnc73 := NB101_116.out
            have hnb74 := NB116_108.out
            have hnc74 := NB108_116.out
            have hnb75 := NB116_112.out
            have hnc75 := NB112_116.out
            have hcz76_0 : w51.cell? ⟨gb116, 0, none⟩ = some (.int .i64 t113) := (blk_cell BK116.out 0).trans rfl
            have hcz76_1 : w51.cell? ⟨gb116, 1, none⟩ = some (.int .i64 t114) := (blk_cell BK116.out 1).trans rfl
            have hfz76_0 := blk_frozen BK116.out 0
            have hfz76_1 := blk_frozen BK116.out 1
            have hnb77 := NB108_101.out
            have hnc77 := NB101_108.out
            have hnb78 := NB108_112.out
            have hnc78 := NB112_108.out
            have hcz79_0 : w51.cell? ⟨gb108, 0, none⟩ = some (.int .i64 t105) := (blk_cell BK108.out 0).trans rfl
            have hcz79_1 : w51.cell? ⟨gb108, 1, none⟩ = some (.int .i64 t106) := (blk_cell BK108.out 1).trans rfl
            have hfz79_0 := blk_frozen BK108.out 0
            have hfz79_1 := blk_frozen BK108.out 1
            have hnb80 := NB112_101.out
            have hnc80 := NB101_112.out
            have hcz81_0 : w51.cell? ⟨gb112, 0, none⟩ = some (.int .i64 t109) := (blk_cell BK112.out 0).trans rfl
            have hcz81_1 : w51.cell? ⟨gb112, 1, none⟩ = some (.int .i64 t110) := (blk_cell BK112.out 1).trans rfl
            have hfz81_0 := blk_frozen BK112.out 0
            have hfz81_1 := blk_frozen BK112.out 1
            go_wp2
            go_meet
            case rel => exact ⟨_, (true), (by first | rfl | (simp; done) | (simp [*]; done)), H', ⟨by have := HJ6.out; first | omega | exact Nat.le_refl _⟩, ⟨by (with_reducible repeat (first | refine blk_drewN ?_ _ | refine blk_drew ?_ | refine blk_alloc ?_ _)); refine blk_far ?_ NB101_120.out _; (with_reducible repeat (first | refine blk_drewN ?_ _ | refine blk_drew ?_ | refine blk_alloc ?_ _)); refine blk_far ?_ NB101_120.out _; (with_reducible repeat (first | refine blk_drewN ?_ _ | refine blk_drew ?_ | refine blk_alloc ?_ _)); exact BK101.out⟩, ⟨by (with_reducible repeat (first | refine blk_drewN ?_ _ | refine blk_drew ?_ | refine blk_alloc ?_ _)); refine blk_far ?_ NB108_120.out _; (with_reducible repeat (first | refine blk_drewN ?_ _ | refine blk_drew ?_ | refine blk_alloc ?_ _)); refine blk_far ?_ NB108_120.out _; (with_reducible repeat (first | refine blk_drewN ?_ _ | refine blk_drew ?_ | refine blk_alloc ?_ _)); exact BK108.out⟩, ⟨by (with_reducible repeat (first | refine blk_drewN ?_ _ | refine blk_drew ?_ | refine blk_alloc ?_ _)); refine blk_far ?_ NB112_120.out _; (with_reducible repeat (first | refine blk_drewN ?_ _ | refine blk_drew ?_ | refine blk_alloc ?_ _)); refine blk_far ?_ NB112_120.out _; (with_reducible repeat (first | refine blk_drewN ?_ _ | refine blk_drew ?_ | refine blk_alloc ?_ _)); exact BK112.out⟩, ⟨by (with_reducible repeat (first | refine blk_drewN ?_ _ | refine blk_drew ?_ | refine blk_alloc ?_ _)); refine blk_far ?_ NB116_120.out _; (with_reducible repeat (first | refine blk_drewN ?_ _ | refine blk_drew ?_ | refine blk_alloc ?_ _)); refine blk_far ?_ NB116_120.out _; (with_reducible repeat (first | refine blk_drewN ?_ _ | refine blk_drew ?_ | refine blk_alloc ?_ _)); exact BK116.out⟩, ⟨by (with_reducible repeat (first | refine blk_drewN ?_ _ | refine blk_drew ?_ | refine blk_alloc ?_ _)); refine blk_put (cs := #[.int .i64 t117, .int .i64 0]) ?_ 1 _ rfl; (with_reducible repeat (first | refine blk_drewN ?_ _ | refine blk_drew ?_ | refine blk_alloc ?_ _)); refine blk_put (cs := #[.int .i64 0, .int .i64 0]) ?_ 0 _ rfl; (with_reducible repeat (first | refine blk_drewN ?_ _ | refine blk_drew ?_ | refine blk_alloc ?_ _)); exact BK120.out⟩, ⟨by repeat (first | (with_reducible first | exact HB.out | apply below_alloc | apply pw_below_drewN | apply below_drew1 | refine below_set ?_ GE101.out | refine below_set ?_ GE108.out | refine below_set ?_ GE112.out | refine below_set ?_ GE116.out | refine below_set ?_ GE120.out) | exact HB.out)⟩⟩
           ·
            rw [if_neg c67] at H
            have c67b0 : decide (t113 < (wrap64 (t105 + t109))) = false := decide_eq_false c67
            clear c67
            have H' := A_ H
            clear H
            have hnb82 := NB120_101.out
            have hnc82 := NB101_120.out
            have hnb83 := NB120_108.out
            have hnc83 := NB108_120.out
            have hnb84 := NB120_112.out
            have hnc84 := NB112_120.out
            have hnb85 := NB120_116.out
            have hnc85 := NB116_120.out
            have hcz86_0 : w51.cell? ⟨gb120, 0, none⟩ = some (.int .i64 0) := (blk_cell BK120.out 0).trans rfl
            have hcz86_1 : w51.cell? ⟨gb120, 1, none⟩ = some (.int .i64 0) := (blk_cell BK120.out 1).trans rfl
            have hfz86_0 := blk_frozen BK120.out 0
            have hfz86_1 := blk_frozen BK120.out 1
            have hnb87 := NB116_101.out
            have hnc87 := NB101_116.out
            have hnb88 := NB116_108.out
            have hnc88 := NB108_116.out
            have hnb89 := NB116_112.out
            have hnc89 := NB112_116.out
            have hcz90_0 : w51.cell? ⟨gb116, 0, none⟩ = some (.int .i64 t113) := (blk_cell BK116.out 0).trans rfl
            have hcz90_1 : w51.cell? ⟨gb116, 1, none⟩ = some (.int .i64 t114) := (blk_cell BK116.out 1).trans rfl
            have hfz90_0 := blk_frozen BK116.out 0
            have hfz90_1 := blk_frozen BK116.out 1
            have hnb91 := NB108_101.out
            have hnc91 := NB101_108.out
            have hnb92 := NB108_112.out
            have hnc92 := NB112_108.out
            have hcz93_0 : w51.cell? ⟨gb108, 0, none⟩ = some (.int .i64 t105) := (blk_cell BK108.out 0).trans rfl
            have hcz93_1 : w51.cell? ⟨gb108, 1, none⟩ = some (.int .i64 t106) := (blk_cell BK108.out 1).trans rfl
            have hfz93_0 := blk_frozen BK108.out 0
            have hfz93_1 := blk_frozen BK108.out 1
            have hnb94 := NB112_101.out
            have hnc94 := NB101_112.out
            have hcz95_0 : w51.cell? ⟨gb112, 0, none⟩ = some (.int .i64 t109) := (blk_cell BK112.out 0).trans rfl
            have hcz95_1 : w51.cell? ⟨gb112, 1, none⟩ = some (.int .i64 t110) := (blk_cell BK112.out 1).trans rfl
            have hfz95_0 := blk_frozen BK112.out 0
            have hfz95_1 := blk_frozen BK112.out 1
            go_wp2
            go_meet
            case rel => exact ⟨_, (decide (t114 > (wrap64 (t106 + t110)))), (by first | rfl | (simp; done) | (simp [*]; done)), H', ⟨by have := HJ6.out; first | omega | exact Nat.le_refl _⟩, ⟨by (with_reducible repeat (first | refine blk_drewN ?_ _ | refine blk_drew ?_ | refine blk_alloc ?_ _)); refine blk_far ?_ NB101_120.out _; (with_reducible repeat (first | refine blk_drewN ?_ _ | refine blk_drew ?_ | refine blk_alloc ?_ _)); refine blk_far ?_ NB101_120.out _; (with_reducible repeat (first | refine blk_drewN ?_ _ | refine blk_drew ?_ | refine blk_alloc ?_ _)); exact BK101.out⟩, ⟨by (with_reducible repeat (first | refine blk_drewN ?_ _ | refine blk_drew ?_ | refine blk_alloc ?_ _)); refine blk_far ?_ NB108_120.out _; (with_reducible repeat (first | refine blk_drewN ?_ _ | refine blk_drew ?_ | refine blk_alloc ?_ _)); refine blk_far ?_ NB108_120.out _; (with_reducible repeat (first | refine blk_drewN ?_ _ | refine blk_drew ?_ | refine blk_alloc ?_ _)); exact BK108.out⟩, ⟨by (with_reducible repeat (first | refine blk_drewN ?_ _ | refine blk_drew ?_ | refine blk_alloc ?_ _)); refine blk_far ?_ NB112_120.out _; (with_reducible repeat (first | refine blk_drewN ?_ _ | refine blk_drew ?_ | refine blk_alloc ?_ _)); refine blk_far ?_ NB112_120.out _; (with_reducible repeat (first | refine blk_drewN ?_ _ | refine blk_drew ?_ | refine blk_alloc ?_ _)); exact BK112.out⟩, ⟨by (with_reducible repeat (first | refine blk_drewN ?_ _ | refine blk_drew ?_ | refine blk_alloc ?_ _)); refine blk_far ?_ NB116_120.out _; (with_reducible repeat (first | refine blk_drewN ?_ _ | refine blk_drew ?_ | refine blk_alloc ?_ _)); refine blk_far ?_ NB116_120.out _; (with_reducible repeat (first | refine blk_drewN ?_ _ | refine blk_drew ?_ | refine blk_alloc ?_ _)); exact BK116.out⟩, ⟨by (with_reducible repeat (first | refine blk_drewN ?_ _ | refine blk_drew ?_ | refine blk_alloc ?_ _)); refine blk_put (cs := #[.int .i64 t117, .int .i64 0]) ?_ 1 _ rfl; (with_reducible repeat (first | refine blk_drewN ?_ _ | refine blk_drew ?_ | refine blk_alloc ?_ _)); refine blk_put (cs := #[.int .i64 0, .int .i64 0]) ?_ 0 _ rfl; (with_reducible repeat (first | refine blk_drewN ?_ _ | refine blk_drew ?_ | refine blk_alloc ?_ _)); exact BK120.out⟩, ⟨by repeat (first | (with_reducible first | exact HB.out | apply below_alloc | apply pw_below_drewN | apply below_drew1 | refine below_set ?_ GE101.out | refine below_set ?_ GE108.out | refine below_set ?_ GE112.out | refine below_set ?_ GE116.out | refine below_set ?_ GE120.out) | exact HB.out)⟩⟩
         ·
          rw [if_neg c60] at H
          have c60b0 : (t119 == 0) = false := beq_eq_false_iff_ne.mpr c60
          have c60b1 : (t119 != 0) = true := bne_iff_ne.mpr c60
          have H' := A_ H
          clear H
          go_wp2
          go_meet
          case rel => exact ⟨_, (true), (by first | rfl | (simp; done) | (simp [*]; done)), H', ⟨by have := HJ6.out; first | omega | exact Nat.le_refl _⟩, ⟨by (with_reducible repeat (first | refine blk_drewN ?_ _ | refine blk_drew ?_ | refine blk_alloc ?_ _)); refine blk_far ?_ NB101_120.out _; (with_reducible repeat (first | refine blk_drewN ?_ _ | refine blk_drew ?_ | refine blk_alloc ?_ _)); refine blk_far ?_ NB101_120.out _; (with_reducible repeat (first | refine blk_drewN ?_ _ | refine blk_drew ?_ | refine blk_alloc ?_ _)); exact BK101.out⟩, ⟨by (with_reducible repeat (first | refine blk_drewN ?_ _ | refine blk_drew ?_ | refine blk_alloc ?_ _)); refine blk_far ?_ NB108_120.out _; (with_reducible repeat (first | refine blk_drewN ?_ _ | refine blk_drew ?_ | refine blk_alloc ?_ _)); refine blk_far ?_ NB108_120.out _; (with_reducible repeat (first | refine blk_drewN ?_ _ | refine blk_drew ?_ | refine blk_alloc ?_ _)); exact BK108.out⟩, ⟨by (with_reducible repeat (first | refine blk_drewN ?_ _ | refine blk_drew ?_ | refine blk_alloc ?_ _)); refine blk_far ?_ NB112_120.out _; (with_reducible repeat (first | refine blk_drewN ?_ _ | refine blk_drew ?_ | refine blk_alloc ?_ _)); refine blk_far ?_ NB112_120.out _; (with_reducible repeat (first | refine blk_drewN ?_ _ | refine blk_drew ?_ | refine blk_alloc ?_ _)); exact BK112.out⟩, ⟨by (with_reducible repeat (first | refine blk_drewN ?_ _ | refine blk_drew ?_ | refine blk_alloc ?_ _)); refine blk_far ?_ NB116_120.out _; (with_reducible repeat (first | refine blk_drewN ?_ _ | refine blk_drew ?_ | refine blk_alloc ?_ _)); refine blk_far ?_ NB116_120.out _; (with_reducible repeat (first | refine blk_drewN ?_ _ | refine blk_drew ?_ | refine blk_alloc ?_ _)); exact BK116.out⟩, ⟨by (with_reducible repeat (first | refine blk_drewN ?_ _ | refine blk_drew ?_ | refine blk_alloc ?_ _)); refine blk_put (cs := #[.int .i64 t117, .int .i64 0]) ?_ 1 _ rfl; (with_reducible repeat (first | refine blk_drewN ?_ _ | refine blk_drew ?_ | refine blk_alloc ?_ _)); refine blk_put (cs := #[.int .i64 0, .int .i64 0]) ?_ 0 _ rfl; (with_reducible repeat (first | refine blk_drewN ?_ _ | refine blk_drew ?_ | refine blk_alloc ?_ _)); exact BK120.out⟩, ⟨by repeat (first | (with_reducible first | exact HB.out | apply below_alloc | apply pw_below_drewN | apply below_drew1 | refine below_set ?_ GE101.out | refine below_set ?_ GE108.out | refine below_set ?_ GE112.out | refine below_set ?_ GE116.out | refine below_set ?_ GE120.out) | exact HB.out)⟩⟩
        ·
         rw [if_neg c59] at H
         have c59b0 : (t115 == 0) = false := beq_eq_false_iff_ne.mpr c59
         have c59b1 : (t115 != 0) = true := bne_iff_ne.mpr c59
         have H' := A_ H
         clear H
         go_wp2
         go_meet
         case rel => exact ⟨_, (true), (by first | rfl | (simp; done) | (simp [*]; done)), H', ⟨by have := HJ6.out; first | omega | exact Nat.le_refl _⟩, ⟨by (with_reducible repeat (first | refine blk_drewN ?_ _ | refine blk_drew ?_ | refine blk_alloc ?_ _)); refine blk_far ?_ NB101_120.out _; (with_reducible repeat (first | refine blk_drewN ?_ _ | refine blk_drew ?_ | refine blk_alloc ?_ _)); refine blk_far ?_ NB101_120.out _; (with_reducible repeat (first | refine blk_drewN ?_ _ | refine blk_drew ?_ | refine blk_alloc ?_ _)); exact BK101.out⟩, ⟨by (with_reducible repeat (first | refine blk_drewN ?_ _ | refine blk_drew ?_ | refine blk_alloc ?_ _)); refine blk_far ?_ NB108_120.out _; (with_reducible repeat (first | refine blk_drewN ?_ _ | refine blk_drew ?_ | refine blk_alloc ?_ _)); refine blk_far ?_ NB108_120.out _; (with_reducible repeat (first | refine blk_drewN ?_ _ | refine blk_drew ?_ | refine blk_alloc ?_ _)); exact BK108.out⟩, ⟨by (with_reducible repeat (first | refine blk_drewN ?_ _ | refine blk_drew ?_ | refine blk_alloc ?_ _)); refine blk_far ?_ NB112_120.out _; (with_reducible repeat (first | refine blk_drewN ?_ _ | refine blk_drew ?_ | refine blk_alloc ?_ _)); refine blk_far ?_ NB112_120.out _; (with_reducible repeat (first | refine blk_drewN ?_ _ | refine blk_drew ?_ | refine blk_alloc ?_ _)); exact BK112.out⟩, ⟨by (with_reducible repeat (first | refine blk_drewN ?_ _ | refine blk_drew ?_ | refine blk_alloc ?_ _)); refine blk_far ?_ NB116_120.out _; (with_reducible repeat (first | refine blk_drewN ?_ _ | refine blk_drew ?_ | refine blk_alloc ?_ _)); refine blk_far ?_ NB116_120.out _; (with_reducible repeat (first | refine blk_drewN ?_ _ | refine blk_drew ?_ | refine blk_alloc ?_ _)); exact BK116.out⟩, ⟨by (with_reducible repeat (first | refine blk_drewN ?_ _ | refine blk_drew ?_ | refine blk_alloc ?_ _)); refine blk_put (cs := #[.int .i64 t117, .int .i64 0]) ?_ 1 _ rfl; (with_reducible repeat (first | refine blk_drewN ?_ _ | refine blk_drew ?_ | refine blk_alloc ?_ _)); refine blk_put (cs := #[.int .i64 0, .int .i64 0]) ?_ 0 _ rfl; (with_reducible repeat (first | refine blk_drewN ?_ _ | refine blk_drew ?_ | refine blk_alloc ?_ _)); exact BK120.out⟩, ⟨by repeat (first | (with_reducible first | exact HB.out | apply below_alloc | apply pw_below_drewN | apply below_drew1 | refine below_set ?_ GE101.out | refine below_set ?_ GE108.out | refine below_set ?_ GE112.out | refine below_set ?_ GE116.out | refine below_set ?_ GE120.out) | exact HB.out)⟩⟩
       ·
        rw [if_neg c58] at H
        have c58b0 : (t111 == 0) = false := beq_eq_false_iff_ne.mpr c58
        have c58b1 : (t111 != 0) = true := bne_iff_ne.mpr c58
        have H' := A_ H
        clear H
        go_wp2
        go_meet
        case rel => exact ⟨_, (true), (by first | rfl | (simp; done) | (simp [*]; done)), H', ⟨by have := HJ6.out; first | omega | exact Nat.le_refl _⟩, ⟨by (with_reducible repeat (first | refine blk_drewN ?_ _ | refine blk_drew ?_ | refine blk_alloc ?_ _)); refine blk_far ?_ NB101_120.out _; (with_reducible repeat (first | refine blk_drewN ?_ _ | refine blk_drew ?_ | refine blk_alloc ?_ _)); refine blk_far ?_ NB101_120.out _; (with_reducible repeat (first | refine blk_drewN ?_ _ | refine blk_drew ?_ | refine blk_alloc ?_ _)); exact BK101.out⟩, ⟨by (with_reducible repeat (first | refine blk_drewN ?_ _ | refine blk_drew ?_ | refine blk_alloc ?_ _)); refine blk_far ?_ NB108_120.out _; (with_reducible repeat (first | refine blk_drewN ?_ _ | refine blk_drew ?_ | refine blk_alloc ?_ _)); refine blk_far ?_ NB108_120.out _; (with_reducible repeat (first | refine blk_drewN ?_ _ | refine blk_drew ?_ | refine blk_alloc ?_ _)); exact BK108.out⟩, ⟨by (with_reducible repeat (first | refine blk_drewN ?_ _ | refine blk_drew ?_ | refine blk_alloc ?_ _)); refine blk_far ?_ NB112_120.out _; (with_reducible repeat (first | refine blk_drewN ?_ _ | refine blk_drew ?_ | refine blk_alloc ?_ _)); refine blk_far ?_ NB112_120.out _; (with_reducible repeat (first | refine blk_drewN ?_ _ | refine blk_drew ?_ | refine blk_alloc ?_ _)); exact BK112.out⟩, ⟨by (with_reducible repeat (first | refine blk_drewN ?_ _ | refine blk_drew ?_ | refine blk_alloc ?_ _)); refine blk_far ?_ NB116_120.out _; (with_reducible repeat (first | refine blk_drewN ?_ _ | refine blk_drew ?_ | refine blk_alloc ?_ _)); refine blk_far ?_ NB116_120.out _; (with_reducible repeat (first | refine blk_drewN ?_ _ | refine blk_drew ?_ | refine blk_alloc ?_ _)); exact BK116.out⟩, ⟨by (with_reducible repeat (first | refine blk_drewN ?_ _ | refine blk_drew ?_ | refine blk_alloc ?_ _)); refine blk_put (cs := #[.int .i64 t117, .int .i64 0]) ?_ 1 _ rfl; (with_reducible repeat (first | refine blk_drewN ?_ _ | refine blk_drew ?_ | refine blk_alloc ?_ _)); refine blk_put (cs := #[.int .i64 0, .int .i64 0]) ?_ 0 _ rfl; (with_reducible repeat (first | refine blk_drewN ?_ _ | refine blk_drew ?_ | refine blk_alloc ?_ _)); exact BK120.out⟩, ⟨by repeat (first | (with_reducible first | exact HB.out | apply below_alloc | apply pw_below_drewN | apply below_drew1 | refine below_set ?_ GE101.out | refine below_set ?_ GE108.out | refine below_set ?_ GE112.out | refine below_set ?_ GE116.out | refine below_set ?_ GE120.out) | exact HB.out)⟩⟩
      ·
       rw [if_neg c57] at H
       have c57b0 : (t107 == 0) = false := beq_eq_false_iff_ne.mpr c57
       have c57b1 : (t107 != 0) = true := bne_iff_ne.mpr c57
       (first | rw [c57b0] | (simp only [i64_w, i32_w]; rw [c57b0]) | skip)
       have H' := A_ H
       clear H
       go_wp2
       go_meet
       case rel => exact ⟨_, (true), (by first | rfl | (simp; done) | (simp [*]; done)), H', ⟨by have := HJ6.out; first | omega | exact Nat.le_refl _⟩, ⟨by (with_reducible repeat (first | refine blk_drewN ?_ _ | refine blk_drew ?_ | refine blk_alloc ?_ _)); refine blk_far ?_ NB101_120.out _; (with_reducible repeat (first | refine blk_drewN ?_ _ | refine blk_drew ?_ | refine blk_alloc ?_ _)); refine blk_far ?_ NB101_120.out _; (with_reducible repeat (first | refine blk_drewN ?_ _ | refine blk_drew ?_ | refine blk_alloc ?_ _)); exact BK101.out⟩, ⟨by (with_reducible repeat (first | refine blk_drewN ?_ _ | refine blk_drew ?_ | refine blk_alloc ?_ _)); refine blk_far ?_ NB108_120.out _; (with_reducible repeat (first | refine blk_drewN ?_ _ | refine blk_drew ?_ | refine blk_alloc ?_ _)); refine blk_far ?_ NB108_120.out _; (with_reducible repeat (first | refine blk_drewN ?_ _ | refine blk_drew ?_ | refine blk_alloc ?_ _)); exact BK108.out⟩, ⟨by (with_reducible repeat (first | refine blk_drewN ?_ _ | refine blk_drew ?_ | refine blk_alloc ?_ _)); refine blk_far ?_ NB112_120.out _; (with_reducible repeat (first | refine blk_drewN ?_ _ | refine blk_drew ?_ | refine blk_alloc ?_ _)); refine blk_far ?_ NB112_120.out _; (with_reducible repeat (first | refine blk_drewN ?_ _ | refine blk_drew ?_ | refine blk_alloc ?_ _)); exact BK112.out⟩, ⟨by (with_reducible repeat (first | refine blk_drewN ?_ _ | refine blk_drew ?_ | refine blk_alloc ?_ _)); refine blk_far ?_ NB116_120.out _; (with_reducible repeat (first | refine blk_drewN ?_ _ | refine blk_drew ?_ | refine blk_alloc ?_ _)); refine blk_far ?_ NB116_120.out _; (with_reducible repeat (first | refine blk_drewN ?_ _ | refine blk_drew ?_ | refine blk_alloc ?_ _)); exact BK116.out⟩, ⟨by (with_reducible repeat (first | refine blk_drewN ?_ _ | refine blk_drew ?_ | refine blk_alloc ?_ _)); refine blk_put (cs := #[.int .i64 t117, .int .i64 0]) ?_ 1 _ rfl; (with_reducible repeat (first | refine blk_drewN ?_ _ | refine blk_drew ?_ | refine blk_alloc ?_ _)); refine blk_put (cs := #[.int .i64 0, .int .i64 0]) ?_ 0 _ rfl; (with_reducible repeat (first | refine blk_drewN ?_ _ | refine blk_drew ?_ | refine blk_alloc ?_ _)); exact BK120.out⟩, ⟨by repeat (first | (with_reducible first | exact HB.out | apply below_alloc | apply pw_below_drewN | apply below_drew1 | refine below_set ?_ GE101.out | refine below_set ?_ GE108.out | refine below_set ?_ GE112.out | refine below_set ?_ GE116.out | refine below_set ?_ GE120.out) | exact HB.out)⟩⟩
     case rest =>
      clear HC27
      try clear c1
      try clear c2
      try clear p2
      try clear c3
      try clear c4
      try clear c5
      try clear c6
      try clear p6
      try clear c7
      try clear c8
      try clear c9
      try clear c11
      try clear c14
      try clear c16
      try clear c18
      try clear c18b0
      try clear c18b1
      try clear c21
      try clear c31
      try clear c33
      try clear c34
      try clear c39
      try clear c40
      try clear c45
      try clear c46
      try clear c47
      try clear c52
      try clear c53
      try clear c54
      try clear c55
      try clear c57
      try clear c57b0
      try clear c57b1
      try clear c58
      try clear c58b0
      try clear c58b1
      try clear c59
      try clear c59b0
      try clear c59b1
      try clear c60
      try clear c60b0
      try clear c60b1
      try clear c61
      try clear c61b0
      try clear c62
      try clear c63
      try clear c64
      try clear p64
      try clear c65
      try clear c67
      try clear c67b0
      try clear c68
      try clear c69
      try clear c70
      try clear c71
      try clear c73
      try clear c74
      try clear c75
      try clear c77
      try clear c78
      try clear c80
      try clear c82
      try clear c83
      try clear c84
      try clear c85
      try clear c87
      try clear c88
      try clear c89
      try clear c91
      try clear c92
      try clear c94
      try clear hcz12_0
      try clear hcz12_1
      try clear hcz12_2
      try clear hcz12_3
      try clear hcz12_4
      try clear hcz12_5
      try clear hcz12_6
      try clear hcz12_7
      try clear hcz12_8
      try clear hcz14_0
      try clear hcz14_1
      try clear hcz14_2
      try clear hcz14_3
      try clear hcz14_4
      try clear hcz14_5
      try clear hcz14_6
      try clear hcz14_7
      try clear hcz14_8
      try clear hcz28_0
      try clear hcz28_1
      try clear hcz28_2
      try clear hcz28_3
      try clear hcz28_4
      try clear hcz28_5
      try clear hcz28_6
      try clear hcz28_7
      try clear hcz28_8
      try clear hcz31_0
      try clear hcz31_1
      try clear hcz31_2
      try clear hcz31_3
      try clear hcz31_4
      try clear hcz31_5
      try clear hcz31_6
      try clear hcz31_7
      try clear hcz31_8
      try clear hcz35_0
      try clear hcz35_1
      try clear hcz36_0
      try clear hcz36_1
      try clear hcz36_2
      try clear hcz36_3
      try clear hcz36_4
      try clear hcz36_5
      try clear hcz36_6
      try clear hcz36_7
      try clear hcz36_8
      try clear hcz41_0
      try clear hcz41_1
      try clear hcz42_0
      try clear hcz42_1
      try clear hcz42_2
      try clear hcz42_3
      try clear hcz42_4
      try clear hcz42_5
      try clear hcz42_6
      try clear hcz42_7
      try clear hcz42_8
      try clear hcz48_0
      try clear hcz48_1
      try clear hcz49_0
      try clear hcz49_1
      try clear hcz49_2
      try clear hcz49_3
      try clear hcz49_4
      try clear hcz49_5
      try clear hcz49_6
      try clear hcz49_7
      try clear hcz49_8
      try clear hcz56_0
      try clear hcz56_1
      try clear hcz66_0
      try clear hcz66_1
      try clear hcz72_0
      try clear hcz72_1
      try clear hcz76_0
      try clear hcz76_1
      try clear hcz79_0
      try clear hcz79_1
      try clear hcz81_0
      try clear hcz81_1
      try clear hcz86_0
      try clear hcz86_1
      try clear hcz90_0
      try clear hcz90_1
      try clear hcz93_0
      try clear hcz93_1
      try clear hcz95_0
      try clear hcz95_1
      try clear hfz12_0
      try clear hfz12_1
      try clear hfz12_2
      try clear hfz12_3
      try clear hfz12_4
      try clear hfz12_5
      try clear hfz12_6
      try clear hfz12_7
      try clear hfz12_8
      try clear hfz14_0
      try clear hfz14_1
      try clear hfz14_2
      try clear hfz14_3
      try clear hfz14_4
      try clear hfz14_5
      try clear hfz14_6
      try clear hfz14_7
      try clear hfz14_8
      try clear hfz28_0
      try clear hfz28_1
      try clear hfz28_2
      try clear hfz28_3
      try clear hfz28_4
      try clear hfz28_5
      try clear hfz28_6
      try clear hfz28_7
      try clear hfz28_8
      try clear hfz31_0
      try clear hfz31_1
      try clear hfz31_2
      try clear hfz31_3
      try clear hfz31_4
      try clear hfz31_5
      try clear hfz31_6
      try clear hfz31_7
      try clear hfz31_8
      try clear hfz35_0
      try clear hfz35_1
      try clear hfz36_0
      try clear hfz36_1
      try clear hfz36_2
      try clear hfz36_3
      try clear hfz36_4
      try clear hfz36_5
      try clear hfz36_6
      try clear hfz36_7
      try clear hfz36_8
      try clear hfz41_0
      try clear hfz41_1
      try clear hfz42_0
      try clear hfz42_1
      try clear hfz42_2
      try clear hfz42_3
      try clear hfz42_4
      try clear hfz42_5
      try clear hfz42_6
      try clear hfz42_7
      try clear hfz42_8
      try clear hfz48_0
      try clear hfz48_1
      try clear hfz49_0
      try clear hfz49_1
      try clear hfz49_2
      try clear hfz49_3
      try clear hfz49_4
      try clear hfz49_5
      try clear hfz49_6
      try clear hfz49_7
      try clear hfz49_8
      try clear hfz56_0
      try clear hfz56_1
      try clear hfz66_0
      try clear hfz66_1
      try clear hfz72_0
      try clear hfz72_1
      try clear hfz76_0
      try clear hfz76_1
      try clear hfz79_0
      try clear hfz79_1
      try clear hfz81_0
      try clear hfz81_1
      try clear hfz86_0
      try clear hfz86_1
      try clear hfz90_0
      try clear hfz90_1
      try clear hfz93_0
      try clear hfz93_1
      try clear hfz95_0
      try clear hfz95_1
      try clear p2
      obtain ⟨kq, x146_26, rfl, HA, HJ26, BK101, BK108, BK112, BK116, BK120, HB⟩ := hcut
      cases kq with
      | zero => exact absurd HA.out (by simp [cottonpadlaw04_BurnClosed.j1])
      | succ kj26 =>
       have H := HA.out
       clear HA
       simp only [cottonpadlaw04_BurnClosed.j1] at H
       by_cases c96 : x146_26 = true
       ·
        subst c96
        have H1 : (none) = some r := by rw [if_pos rfl] at H; exact H
        clear H
        have H := H1
        clear H1
        exact absurd H (by simp)
       ·
        replace c96 := Bool.eq_false_iff.mpr c96
        subst c96
        have H1 : (if a0_6 = a0_7 then ((cottonpadlaw04_span.f (wrap64 (t105 + t109)) (wrap64 (t106 + t110))).bind fun bt121 => (cottonpadlaw04_BurnClosed.j2 kj26 l1 t102 t104 (wrap64 ((wrap64 ((wrap64 ((wrap64 ((Int.tmod (wrap64 (a2)) (wrap64 (t104 + 1))) + (Int.tmod (wrap64 (a3)) (wrap64 (t104 + 1))))) + (Int.tmod (wrap64 (a4)) (wrap64 (t104 + 1))))) - (ji20))) - (ji22))) (!(t113 == bt121.1) || (!(t114 == bt121.2))) a0_0 a0_1 a0_2 a0_3 a0_4 a0_5 a0_6 a0_7 a0_8)) else (cottonpadlaw04_BurnClosed.j2 kj26 l1 t102 t104 (wrap64 ((wrap64 ((wrap64 ((wrap64 ((Int.tmod (wrap64 (a2)) (wrap64 (t104 + 1))) + (Int.tmod (wrap64 (a3)) (wrap64 (t104 + 1))))) + (Int.tmod (wrap64 (a4)) (wrap64 (t104 + 1))))) - (ji20))) - (ji22))) false a0_0 a0_1 a0_2 a0_3 a0_4 a0_5 a0_6 a0_7 a0_8)) = some r := by rw [if_neg (show ¬ (false = true) by decide)] at H; exact H
        clear H
        have H := H1
        clear H1
        have HC97 := A_ H
        clear H
        go_upto_region 14 with (fail)
        go_cut [168] (fun v168 wc => ∃ (kq : Nat) (x168_96 : Bool), v168 = .bool x168_96 ∧ Aside0 (cottonpadlaw04_BurnClosed.j2 kq l1 t102 t104 (wrap64 ((wrap64 ((wrap64 ((wrap64 ((Int.tmod (wrap64 (a2)) (wrap64 (t104 + 1))) + (Int.tmod (wrap64 (a3)) (wrap64 (t104 + 1))))) + (Int.tmod (wrap64 (a4)) (wrap64 (t104 + 1))))) - (ji20))) - (ji22))) x168_96 a0_0 a0_1 a0_2 a0_3 a0_4 a0_5 a0_6 a0_7 a0_8 = some r) ∧ Aside0 (kq ≤ kj26) ∧ Aside0 (wc.heap[gb101]? = some (.cells #[.int .i64 a0_0, .int .i64 a0_1, .int .i64 a0_2, .int .i64 a0_3, .int .i64 a0_4, .int .i64 a0_5, .int .i64 a0_6, .int .i64 a0_7, .int .i64 a0_8] 25 (0, 0))) ∧ Aside0 (wc.heap[gb108]? = some (.cells #[.int .i64 t105, .int .i64 t106] 23 (0, 0))) ∧ Aside0 (wc.heap[gb112]? = some (.cells #[.int .i64 t109, .int .i64 t110] 23 (0, 0))) ∧ Aside0 (wc.heap[gb116]? = some (.cells #[.int .i64 t113, .int .i64 t114] 23 (0, 0))) ∧ Aside0 (wc.heap[gb120]? = some (.cells #[.int .i64 t117, .int .i64 t118] 23 (0, 0))) ∧ Aside0 (Below w.heap.size w wc))
        case first =>
         have H := HC97.out
         clear HC97
         by_cases c98 : a0_6 = a0_7
         ·
          rw [if_pos c98] at H
          have c98b0 : (a0_6 == a0_7) = true := beq_iff_eq.mpr c98
          have c98b1 : (a0_6 != a0_7) = false := bne_eq_false_iff_eq.mpr c98
          clear c98
          (first | rw [c98b0] | (simp only [i64_w, i32_w]; rw [c98b0]) | skip)
          replace H := Option.bind_eq_some_iff.mp H
          obtain ⟨⟨t121, t122⟩, A990, H⟩ := H
          try dsimp only at H
          have A99 := A_ A990
          clear A990
          have H' := A_ H
          clear H
          try go_wp2
          have n0_ := A_ (blk_drew BK101.out)
          have n1_ := A_ (blk_drew BK108.out)
          have n2_ := A_ (blk_drew BK112.out)
          have n3_ := A_ (blk_drew BK116.out)
          have n4_ := A_ (blk_drew BK120.out)
          have n5_ := A_ (below_drew1 HB.out)
          clear BK101
          clear BK108
          clear BK112
          clear BK116
          clear BK120
          clear HB
          have BK101 := n0_
          have BK108 := n1_
          have BK112 := n2_
          have BK116 := n3_
          have BK120 := n4_
          have HB := n5_
          clear n0_ n1_ n2_ n3_ n4_ n5_
          refine start_ (n := 22) (S := fun w' => w'.cell? ⟨gb101, 0, none⟩ = some (.int .i64 a0_0) ∧ w'.cell? ⟨gb101, 1, none⟩ = some (.int .i64 a0_1) ∧ w'.cell? ⟨gb101, 2, none⟩ = some (.int .i64 a0_2) ∧ w'.cell? ⟨gb101, 3, none⟩ = some (.int .i64 a0_3) ∧ w'.cell? ⟨gb101, 4, none⟩ = some (.int .i64 a0_4) ∧ w'.cell? ⟨gb101, 5, none⟩ = some (.int .i64 a0_5) ∧ w'.cell? ⟨gb101, 6, none⟩ = some (.int .i64 a0_6) ∧ w'.cell? ⟨gb101, 7, none⟩ = some (.int .i64 a0_7) ∧ w'.cell? ⟨gb101, 8, none⟩ = some (.int .i64 a0_8) ∧ w'.cell? ⟨gb116, 0, none⟩ = some (.int .i64 t113) ∧ w'.cell? ⟨gb116, 1, none⟩ = some (.int .i64 t114) ∧ w'.cell? ⟨gb108, 0, none⟩ = some (.int .i64 t105) ∧ w'.cell? ⟨gb108, 1, none⟩ = some (.int .i64 t106) ∧ w'.cell? ⟨gb112, 0, none⟩ = some (.int .i64 t109) ∧ w'.cell? ⟨gb112, 1, none⟩ = some (.int .i64 t110)) (ds := []) #[false, false, false, false, false, false, false, false, false, false, false, false, false, false, false, false, false, false, false, false, false, false] (by kernel_rfl) rfl rfl ⟨(blk_cell BK101.out 0).trans rfl, (blk_cell BK101.out 1).trans rfl, (blk_cell BK101.out 2).trans rfl, (blk_cell BK101.out 3).trans rfl, (blk_cell BK101.out 4).trans rfl, (blk_cell BK101.out 5).trans rfl, (blk_cell BK101.out 6).trans rfl, (blk_cell BK101.out 7).trans rfl, (blk_cell BK101.out 8).trans rfl, (blk_cell BK116.out 0).trans rfl, (blk_cell BK116.out 1).trans rfl, (blk_cell BK108.out 0).trans rfl, (blk_cell BK108.out 1).trans rfl, (blk_cell BK112.out 0).trans rfl, (blk_cell BK112.out 1).trans rfl⟩ (fun hHeld => ?_); refine with_tabW cottonpadlaw04_BurnClosed.tab14 cottonpadlaw04_BurnClosed.bits14 (fun HT_ HW_ => ?_)
          generalize wc.drew = w100 at BK101 BK108 BK112 BK116 BK120 HB hHeld ⊢
          refine pure_ (i := 0) (N := some 147) (v := ?_) (a' := ?_) #[true, false, false, false, false, false, false, false, false, false, false, false, false, false, false, false, false, false, false, false, false, false] rfl rfl (any_of HT_.out (by kernel_rfl)) (fun _ _ _ h => h) (Or.inl ⟨by rfl, ?_⟩) ?_ ?_
          rotate_left
          ·
           intro w'
           go_simp
           with_reducible rfl
          rotate_left
          ·
           simp only [Act.put, sT_, s0_, sS_, i64_w, i32_w]
           rfl
          refine pure_ (i := 1) (N := some 148) (v := ?_) (a' := ?_) #[true, true, false, false, false, false, false, false, false, false, false, false, false, false, false, false, false, false, false, false, false, false] rfl rfl (any_of HT_.out (by kernel_rfl)) (fun _ _ _ h => h) (Or.inl ⟨by rfl, ?_⟩) ?_ ?_
          rotate_left
          ·
           intro w'
           go_simp
           with_reducible rfl
          rotate_left
          ·
           simp only [Act.put, sT_, s0_, sS_, i64_w, i32_w]
           rfl
          refine pure_ (i := 3) (N := some 150) (v := ?_) (a' := ?_) #[true, true, false, true, false, false, false, false, false, false, false, false, false, false, false, false, false, false, false, false, false, false] rfl rfl (any_of HT_.out (by kernel_rfl)) (fun _ _ _ h => h) (Or.inl ⟨by rfl, ?_⟩) ?_ ?_
          rotate_left
          ·
           intro w'
           go_simp
           with_reducible rfl
          rotate_left
          ·
           simp only [Act.put, sT_, s0_, sS_, i64_w, i32_w]
           rfl
          refine pure_ (i := 4) (N := some 151) (v := ?_) (a' := ?_) #[true, true, false, true, true, false, false, false, false, false, false, false, false, false, false, false, false, false, false, false, false, false] rfl rfl (any_of HT_.out (by kernel_rfl)) (fun _ _ _ h => h) (Or.inl ⟨by rfl, ?_⟩) ?_ ?_
          rotate_left
          ·
           intro w'
           go_simp
           with_reducible rfl
          rotate_left
          ·
           simp only [Act.put, sT_, s0_, sS_, i64_w, i32_w]
           rfl
          refine take_ (i := 2) (N := some 149) (v := ?_) (a' := ?_) #[true, true, true, true, true, false, false, false, false, false, false, false, false, false, false, false, false, false, false, false, false, false] rfl rfl (take_ofW HT_.out HW_.out (by kernel_rfl)) (fun _ _ _ h => h) (Or.inl ⟨by rfl, ?_⟩) hHeld ?_ ?_
          rotate_left
          ·
           rintro w' ⟨s0, s1, s2, s3, s4, s5, s6, s7, s8, s9, s10, s11, s12, s13, s14⟩
           go_simp
           with_reducible rfl
          rotate_left
          ·
           simp only [Act.put, sT_, s0_, sS_, i64_w, i32_w]
           rfl
          refine take_ (i := 5) (N := some 152) (v := ?_) (a' := ?_) #[true, true, true, true, true, true, false, false, false, false, false, false, false, false, false, false, false, false, false, false, false, false] rfl rfl (take_ofW HT_.out HW_.out (by kernel_rfl)) (fun _ _ _ h => h) (Or.inl ⟨by rfl, ?_⟩) hHeld ?_ ?_
          rotate_left
          ·
           rintro w' ⟨s0, s1, s2, s3, s4, s5, s6, s7, s8, s9, s10, s11, s12, s13, s14⟩
           go_simp
           with_reducible rfl
          rotate_left
          ·
           simp only [Act.put, sT_, s0_, sS_, i64_w, i32_w]
           rfl
          refine pure_ (i := 6) (N := some 153) (v := ?_) (a' := ?_) #[true, true, true, true, true, true, true, false, false, false, false, false, false, false, false, false, false, false, false, false, false, false] rfl rfl (any_of HT_.out (by kernel_rfl)) (fun _ _ _ h => h) (Or.inl ⟨by rfl, ?_⟩) ?_ ?_
          rotate_left
          ·
           intro w'
           go_simp
           with_reducible rfl
          rotate_left
          ·
           simp only [Act.put, sT_, s0_, sS_, i64_w, i32_w]
           rfl
          refine pure_ (i := 7) (N := some 154) (v := ?_) (a' := ?_) #[true, true, true, true, true, true, true, true, false, false, false, false, false, false, false, false, false, false, false, false, false, false] rfl rfl (any_of HT_.out (by kernel_rfl)) (fun _ _ _ h => h) (Or.inl ⟨by rfl, ?_⟩) ?_ ?_
          rotate_left
          ·
           intro w'
           go_simp
           with_reducible rfl
          rotate_left
          ·
           simp only [Act.put, sT_, s0_, sS_, i64_w, i32_w]
           rfl
          refine pure_ (i := 9) (N := some 156) (v := ?_) (a' := ?_) #[true, true, true, true, true, true, true, true, false, true, false, false, false, false, false, false, false, false, false, false, false, false] rfl rfl (any_of HT_.out (by kernel_rfl)) (fun _ _ _ h => h) (Or.inl ⟨by rfl, ?_⟩) ?_ ?_
          rotate_left
          ·
           intro w'
           go_simp
           with_reducible rfl
          rotate_left
          ·
           simp only [Act.put, sT_, s0_, sS_, i64_w, i32_w]
           rfl
          refine pure_ (i := 11) (N := some 158) (v := ?_) (a' := ?_) #[true, true, true, true, true, true, true, true, false, true, false, true, false, false, false, false, false, false, false, false, false, false] rfl rfl (any_of HT_.out (by kernel_rfl)) (fun _ _ _ h => h) (Or.inl ⟨by rfl, ?_⟩) ?_ ?_
          rotate_left
          ·
           intro w'
           go_simp
           with_reducible rfl
          rotate_left
          ·
           simp only [Act.put, sT_, s0_, sS_, i64_w, i32_w]
           rfl
          refine pure_ (i := 14) (N := some 161) (v := ?_) (a' := ?_) #[true, true, true, true, true, true, true, true, false, true, false, true, false, false, true, false, false, false, false, false, false, false] rfl rfl (any_of HT_.out (by kernel_rfl)) (fun _ _ _ h => h) (Or.inl ⟨by rfl, ?_⟩) ?_ ?_
          rotate_left
          ·
           intro w'
           go_simp
           with_reducible rfl
          rotate_left
          ·
           simp only [Act.put, sT_, s0_, sS_, i64_w, i32_w]
           rfl
          refine pure_ (i := 16) (N := some 163) (v := ?_) (a' := ?_) #[true, true, true, true, true, true, true, true, false, true, false, true, false, false, true, false, true, false, false, false, false, false] rfl rfl (any_of HT_.out (by kernel_rfl)) (fun _ _ _ h => h) (Or.inl ⟨by rfl, ?_⟩) ?_ ?_
          rotate_left
          ·
           intro w'
           go_simp
           with_reducible rfl
          rotate_left
          ·
           simp only [Act.put, sT_, s0_, sS_, i64_w, i32_w]
           rfl
          refine take_ (i := 8) (N := some 155) (v := ?_) (a' := ?_) #[true, true, true, true, true, true, true, true, true, true, false, true, false, false, true, false, true, false, false, false, false, false] rfl rfl (take_ofW HT_.out HW_.out (by kernel_rfl)) (fun _ _ _ h => h) (Or.inl ⟨by rfl, ?_⟩) hHeld ?_ ?_
          rotate_left
          ·
           rintro w' ⟨s0, s1, s2, s3, s4, s5, s6, s7, s8, s9, s10, s11, s12, s13, s14⟩
           go_simp
           with_reducible rfl
          rotate_left
          ·
           simp only [Act.put, sT_, s0_, sS_, i64_w, i32_w]
           rfl
          refine take_ (i := 10) (N := some 157) (v := ?_) (a' := ?_) #[true, true, true, true, true, true, true, true, true, true, true, true, false, false, true, false, true, false, false, false, false, false] rfl rfl (take_ofW HT_.out HW_.out (by kernel_rfl)) (fun _ _ _ h => h) (Or.inl ⟨by rfl, ?_⟩) hHeld ?_ ?_
          rotate_left
          ·
           rintro w' ⟨s0, s1, s2, s3, s4, s5, s6, s7, s8, s9, s10, s11, s12, s13, s14⟩
           go_simp
           with_reducible rfl
          rotate_left
          ·
           simp only [Act.put, sT_, s0_, sS_, i64_w, i32_w]
           rfl
          refine take_ (i := 12) (N := some 159) (v := ?_) (a' := ?_) #[true, true, true, true, true, true, true, true, true, true, true, true, true, false, true, false, true, false, false, false, false, false] rfl rfl (take_ofW HT_.out HW_.out (by kernel_rfl)) (fun _ _ _ h => h) (Or.inl ⟨by rfl, ?_⟩) hHeld ?_ ?_
          rotate_left
          ·
           rintro w' ⟨s0, s1, s2, s3, s4, s5, s6, s7, s8, s9, s10, s11, s12, s13, s14⟩
           go_simp
           with_reducible rfl
          rotate_left
          ·
           simp only [Act.put, sT_, s0_, sS_, i64_w, i32_w]
           rfl
          refine pure_ (i := 13) (N := some 160) (v := ?_) (a' := ?_) #[true, true, true, true, true, true, true, true, true, true, true, true, true, true, true, false, true, false, false, false, false, false] rfl rfl (any_of HT_.out (by kernel_rfl)) (fun _ _ _ h => h) (Or.inl ⟨by rfl, ?_⟩) ?_ ?_
          rotate_left
          ·
           intro w'
           go_simp
           with_reducible rfl
          rotate_left
          ·
           simp only [Act.put, sT_, s0_, sS_, i64_w, i32_w]
           rfl
          refine take_ (i := 15) (N := some 162) (v := ?_) (a' := ?_) #[true, true, true, true, true, true, true, true, true, true, true, true, true, true, true, true, true, false, false, false, false, false] rfl rfl (take_ofW HT_.out HW_.out (by kernel_rfl)) (fun _ _ _ h => h) (Or.inl ⟨by rfl, ?_⟩) hHeld ?_ ?_
          rotate_left
          ·
           rintro w' ⟨s0, s1, s2, s3, s4, s5, s6, s7, s8, s9, s10, s11, s12, s13, s14⟩
           go_simp
           with_reducible rfl
          rotate_left
          ·
           simp only [Act.put, sT_, s0_, sS_, i64_w, i32_w]
           rfl
          refine take_ (i := 17) (N := some 164) (v := ?_) (a' := ?_) #[true, true, true, true, true, true, true, true, true, true, true, true, true, true, true, true, true, true, false, false, false, false] rfl rfl (take_ofW HT_.out HW_.out (by kernel_rfl)) (fun _ _ _ h => h) (Or.inl ⟨by rfl, ?_⟩) hHeld ?_ ?_
          rotate_left
          ·
           rintro w' ⟨s0, s1, s2, s3, s4, s5, s6, s7, s8, s9, s10, s11, s12, s13, s14⟩
           go_simp
           with_reducible rfl
          rotate_left
          ·
           simp only [Act.put, sT_, s0_, sS_, i64_w, i32_w]
           rfl
          refine pure_ (i := 18) (N := some 165) (v := ?_) (a' := ?_) #[true, true, true, true, true, true, true, true, true, true, true, true, true, true, true, true, true, true, true, false, false, false] rfl rfl (any_of HT_.out (by kernel_rfl)) (fun _ _ _ h => h) (Or.inl ⟨by rfl, ?_⟩) ?_ ?_
          rotate_left
          ·
           intro w'
           go_simp
           with_reducible rfl
          rotate_left
          ·
           simp only [Act.put, sT_, s0_, sS_, i64_w, i32_w]
           rfl
          refine one_ (i := 19) (N := some 166) #[true, true, true, true, true, true, true, true, true, true, true, true, true, true, true, true, true, true, true, true, false, false] rfl rfl (one_of HT_.out (by kernel_rfl)) (by decide) (fun K hK => ?_)
          refine goes_ Tryd.func35 (by kernel_rfl) rfl #[.int .i64 (wrap64 (t105 + t109)), .int .i64 (wrap64 (t106 + t110))] (by rfl) rfl rfl (by (try simp only [List.map_toArray, List.map_cons, List.map_nil]); first | done | rfl | (simp only [List.length_drop, List.length_take]; rfl)) ?_
          with_reducible refine (cottonpadlaw04_span.calls (wrap64 (t105 + t109)) (wrap64 (t106 + t110)) t121 t122 _ A99.out).mono ?_
          rintro e w101 ⟨rfl, hb⟩
          refine ⟨_, rfl, ?_⟩
          have n0_ := bb_ BK101.out hb
          have n1_ := bb_ BK108.out hb
          have n2_ := bb_ BK112.out hb
          have n3_ := bb_ BK116.out hb
          have n4_ := bb_ BK120.out hb
          have n5_ := A_ (below_step (by repeat (first | (with_reducible first | exact HB.out | apply below_alloc | apply pw_below_drewN | apply below_drew1 | refine below_set ?_ GE101.out | refine below_set ?_ GE108.out | refine below_set ?_ GE112.out | refine below_set ?_ GE116.out | refine below_set ?_ GE120.out) | exact HB.out)) hb)
          clear BK101
          clear BK108
          clear BK112
          clear BK116
          clear BK120
          clear HB
          have BK101 := n0_
          have BK108 := n1_
          have BK112 := n2_
          have BK116 := n3_
          have BK120 := n4_
          have HB := n5_
          clear n0_ n1_ n2_ n3_ n4_ n5_
          (try clear hb)
          (try clear hb2)
          (try clear hk)
          (try clear hi)
          refine hK.out _ _ ⟨(blk_cell BK101.out 0).trans rfl, (blk_cell BK101.out 1).trans rfl, (blk_cell BK101.out 2).trans rfl, (blk_cell BK101.out 3).trans rfl, (blk_cell BK101.out 4).trans rfl, (blk_cell BK101.out 5).trans rfl, (blk_cell BK101.out 6).trans rfl, (blk_cell BK101.out 7).trans rfl, (blk_cell BK101.out 8).trans rfl, (blk_cell BK116.out 0).trans rfl, (blk_cell BK116.out 1).trans rfl, (blk_cell BK108.out 0).trans rfl, (blk_cell BK108.out 1).trans rfl, (blk_cell BK112.out 0).trans rfl, (blk_cell BK112.out 1).trans rfl⟩ (fun hHeld => ?_)
          clear hK K
          refine norm_ (a' := ?_) ?_ ?_
          rotate_left
          ·
           show Act.put _ (some 166) _ = _
           simp only [Act.put, sT_, s0_, sS_, i64_w, i32_w]
           rfl
          refine pure_ (i := 20) (N := some 167) (v := ?_) (a' := ?_) #[true, true, true, true, true, true, true, true, true, true, true, true, true, true, true, true, true, true, true, true, true, false] rfl rfl (any_of HT_.out (by kernel_rfl)) (fun _ _ _ h => h) (Or.inl ⟨by rfl, ?_⟩) ?_ ?_
          rotate_left
          ·
           intro w'
           go_simp
           with_reducible rfl
          rotate_left
          ·
           simp only [Act.put, sT_, s0_, sS_, i64_w, i32_w]
           rfl
          refine pure_ (i := 21) (N := some 168) (v := ?_) (a' := ?_) #[true, true, true, true, true, true, true, true, true, true, true, true, true, true, true, true, true, true, true, true, true, true] rfl rfl (any_of HT_.out (by kernel_rfl)) (fun _ _ _ h => h) (Or.inl ⟨by rfl, ?_⟩) ?_ ?_
          rotate_left
          ·
           intro w'
           go_simp
           with_reducible rfl
          rotate_left
          ·
           simp only [Act.put, sT_, s0_, sS_, i64_w, i32_w]
           rfl
          refine done_ (done_of HT_.out (by kernel_rfl)) ?_
          try go_wp2
          go_meet
          case rel => exact ⟨_, ((!(t113 == t121) || (!(t114 == t122)))), (by first | rfl | (simp; done) | (simp [*]; done)), H', ⟨by have := HJ6.out; have := HJ26.out; first | omega | exact Nat.le_refl _⟩, ⟨by (with_reducible repeat (first | refine blk_drewN ?_ _ | refine blk_drew ?_ | refine blk_alloc ?_ _)); exact BK101.out⟩, ⟨by (with_reducible repeat (first | refine blk_drewN ?_ _ | refine blk_drew ?_ | refine blk_alloc ?_ _)); exact BK108.out⟩, ⟨by (with_reducible repeat (first | refine blk_drewN ?_ _ | refine blk_drew ?_ | refine blk_alloc ?_ _)); exact BK112.out⟩, ⟨by (with_reducible repeat (first | refine blk_drewN ?_ _ | refine blk_drew ?_ | refine blk_alloc ?_ _)); exact BK116.out⟩, ⟨by (with_reducible repeat (first | refine blk_drewN ?_ _ | refine blk_drew ?_ | refine blk_alloc ?_ _)); exact BK120.out⟩, ⟨by repeat (first | (with_reducible first | exact HB.out | apply below_alloc | apply pw_below_drewN | apply below_drew1 | refine below_set ?_ GE101.out | refine below_set ?_ GE108.out | refine below_set ?_ GE112.out | refine below_set ?_ GE116.out | refine below_set ?_ GE120.out) | exact HB.out)⟩⟩
         ·
          rw [if_neg c98] at H
          have c98b0 : (a0_6 == a0_7) = false := beq_eq_false_iff_ne.mpr c98
          have c98b1 : (a0_6 != a0_7) = true := bne_iff_ne.mpr c98
          (first | rw [c98b0] | (simp only [i64_w, i32_w]; rw [c98b0]) | skip)
          have H' := A_ H
          clear H
          try go_wp2
          have n0_ := A_ (blk_drew BK101.out)
          have n1_ := A_ (blk_drew BK108.out)
          have n2_ := A_ (blk_drew BK112.out)
          have n3_ := A_ (blk_drew BK116.out)
          have n4_ := A_ (blk_drew BK120.out)
          have n5_ := A_ (below_drew1 HB.out)
          clear BK101
          clear BK108
          clear BK112
          clear BK116
          clear BK120
          clear HB
          have BK101 := n0_
          have BK108 := n1_
          have BK112 := n2_
          have BK116 := n3_
          have BK120 := n4_
          have HB := n5_
          clear n0_ n1_ n2_ n3_ n4_ n5_
          refine start_ (n := 22) (S := fun w' => w'.cell? ⟨gb101, 0, none⟩ = some (.int .i64 a0_0) ∧ w'.cell? ⟨gb101, 1, none⟩ = some (.int .i64 a0_1) ∧ w'.cell? ⟨gb101, 2, none⟩ = some (.int .i64 a0_2) ∧ w'.cell? ⟨gb101, 3, none⟩ = some (.int .i64 a0_3) ∧ w'.cell? ⟨gb101, 4, none⟩ = some (.int .i64 a0_4) ∧ w'.cell? ⟨gb101, 5, none⟩ = some (.int .i64 a0_5) ∧ w'.cell? ⟨gb101, 6, none⟩ = some (.int .i64 a0_6) ∧ w'.cell? ⟨gb101, 7, none⟩ = some (.int .i64 a0_7) ∧ w'.cell? ⟨gb101, 8, none⟩ = some (.int .i64 a0_8)) (ds := []) #[false, false, false, false, false, false, false, false, false, false, false, false, false, false, false, false, false, false, false, false, false, false] (by kernel_rfl) rfl rfl ⟨(blk_cell BK101.out 0).trans rfl, (blk_cell BK101.out 1).trans rfl, (blk_cell BK101.out 2).trans rfl, (blk_cell BK101.out 3).trans rfl, (blk_cell BK101.out 4).trans rfl, (blk_cell BK101.out 5).trans rfl, (blk_cell BK101.out 6).trans rfl, (blk_cell BK101.out 7).trans rfl, (blk_cell BK101.out 8).trans rfl⟩ (fun hHeld => ?_); refine with_tabW cottonpadlaw04_BurnClosed.tab14 cottonpadlaw04_BurnClosed.bits14 (fun HT_ HW_ => ?_)
          generalize wc.drew = w102 at BK101 BK108 BK112 BK116 BK120 HB hHeld ⊢
          refine pure_ (i := 0) (N := some 147) (v := ?_) (a' := ?_) #[true, false, false, false, false, false, false, false, false, false, false, false, false, false, false, false, false, false, false, false, false, false] rfl rfl (any_of HT_.out (by kernel_rfl)) (fun _ _ _ h => h) (Or.inl ⟨by rfl, ?_⟩) ?_ ?_
          rotate_left
          ·
           intro w'
           go_simp
           with_reducible rfl
          rotate_left
          ·
           simp only [Act.put, sT_, s0_, sS_, i64_w, i32_w]
           rfl
          refine pure_ (i := 1) (N := some 148) (v := ?_) (a' := ?_) #[true, true, false, false, false, false, false, false, false, false, false, false, false, false, false, false, false, false, false, false, false, false] rfl rfl (any_of HT_.out (by kernel_rfl)) (fun _ _ _ h => h) (Or.inl ⟨by rfl, ?_⟩) ?_ ?_
          rotate_left
          ·
           intro w'
           go_simp
           with_reducible rfl
          rotate_left
          ·
           simp only [Act.put, sT_, s0_, sS_, i64_w, i32_w]
           rfl
          refine pure_ (i := 3) (N := some 150) (v := ?_) (a' := ?_) #[true, true, false, true, false, false, false, false, false, false, false, false, false, false, false, false, false, false, false, false, false, false] rfl rfl (any_of HT_.out (by kernel_rfl)) (fun _ _ _ h => h) (Or.inl ⟨by rfl, ?_⟩) ?_ ?_
          rotate_left
          ·
           intro w'
           go_simp
           with_reducible rfl
          rotate_left
          ·
           simp only [Act.put, sT_, s0_, sS_, i64_w, i32_w]
           rfl
          refine pure_ (i := 4) (N := some 151) (v := ?_) (a' := ?_) #[true, true, false, true, true, false, false, false, false, false, false, false, false, false, false, false, false, false, false, false, false, false] rfl rfl (any_of HT_.out (by kernel_rfl)) (fun _ _ _ h => h) (Or.inl ⟨by rfl, ?_⟩) ?_ ?_
          rotate_left
          ·
           intro w'
           go_simp
           with_reducible rfl
          rotate_left
          ·
           simp only [Act.put, sT_, s0_, sS_, i64_w, i32_w]
           rfl
          refine take_ (i := 2) (N := some 149) (v := ?_) (a' := ?_) #[true, true, true, true, true, false, false, false, false, false, false, false, false, false, false, false, false, false, false, false, false, false] rfl rfl (take_ofW HT_.out HW_.out (by kernel_rfl)) (fun _ _ _ h => h) (Or.inl ⟨by rfl, ?_⟩) hHeld ?_ ?_
          rotate_left
          ·
           rintro w' ⟨s0, s1, s2, s3, s4, s5, s6, s7, s8⟩
           go_simp
           with_reducible rfl
          rotate_left
          ·
           simp only [Act.put, sT_, s0_, sS_, i64_w, i32_w]
           rfl
          refine take_ (i := 5) (N := some 152) (v := ?_) (a' := ?_) #[true, true, true, true, true, true, false, false, false, false, false, false, false, false, false, false, false, false, false, false, false, false] rfl rfl (take_ofW HT_.out HW_.out (by kernel_rfl)) (fun _ _ _ h => h) (Or.inl ⟨by rfl, ?_⟩) hHeld ?_ ?_
          rotate_left
          ·
           rintro w' ⟨s0, s1, s2, s3, s4, s5, s6, s7, s8⟩
           go_simp
           with_reducible rfl
          rotate_left
          ·
           simp only [Act.put, sT_, s0_, sS_, i64_w, i32_w]
           rfl
          refine pure_ (i := 6) (N := some 153) (v := ?_) (a' := ?_) #[true, true, true, true, true, true, true, false, false, false, false, false, false, false, false, false, false, false, false, false, false, false] rfl rfl (any_of HT_.out (by kernel_rfl)) (fun _ _ _ h => h) (Or.inl ⟨by rfl, ?_⟩) ?_ ?_
          rotate_left
          ·
           intro w'
           go_simp
           with_reducible rfl
          rotate_left
          ·
           simp only [Act.put, sT_, s0_, sS_, i64_w, i32_w]
           rfl
          refine pure_ (i := 7) (N := some 154) (v := ?_) (a' := ?_) #[true, true, true, true, true, true, true, true, false, false, false, false, false, false, false, false, false, false, false, false, false, false] rfl rfl (any_of HT_.out (by kernel_rfl)) (fun _ _ _ h => h) (Or.inl ⟨by rfl, ?_⟩) ?_ ?_
          rotate_left
          ·
           intro w'
           go_simp
           with_reducible rfl
          rotate_left
          ·
           simp only [Act.put, sT_, s0_, sS_, i64_w, i32_w]
           rfl
          refine pure_ (i := 8) (N := some 155) (v := undef) (a' := ?_) #[true, true, true, true, true, true, true, true, true, false, false, false, false, false, false, false, false, false, false, false, false, false] rfl rfl (any_of HT_.out (by kernel_rfl)) (fun _ _ _ h => h) (Or.inr ⟨by rfl, rfl⟩) ?_ ?_
          rotate_left
          ·
           simp only [Act.put, sT_, s0_, sS_, i64_w, i32_w]
           rfl
          refine pure_ (i := 9) (N := some 156) (v := undef) (a' := ?_) #[true, true, true, true, true, true, true, true, true, true, false, false, false, false, false, false, false, false, false, false, false, false] rfl rfl (any_of HT_.out (by kernel_rfl)) (fun _ _ _ h => h) (Or.inr ⟨by rfl, rfl⟩) ?_ ?_
          rotate_left
          ·
           simp only [Act.put, sT_, s0_, sS_, i64_w, i32_w]
           rfl
          refine pure_ (i := 10) (N := some 157) (v := undef) (a' := ?_) #[true, true, true, true, true, true, true, true, true, true, true, false, false, false, false, false, false, false, false, false, false, false] rfl rfl (any_of HT_.out (by kernel_rfl)) (fun _ _ _ h => h) (Or.inr ⟨by rfl, rfl⟩) ?_ ?_
          rotate_left
          ·
           simp only [Act.put, sT_, s0_, sS_, i64_w, i32_w]
           rfl
          refine pure_ (i := 11) (N := some 158) (v := undef) (a' := ?_) #[true, true, true, true, true, true, true, true, true, true, true, true, false, false, false, false, false, false, false, false, false, false] rfl rfl (any_of HT_.out (by kernel_rfl)) (fun _ _ _ h => h) (Or.inr ⟨by rfl, rfl⟩) ?_ ?_
          rotate_left
          ·
           simp only [Act.put, sT_, s0_, sS_, i64_w, i32_w]
           rfl
          refine pure_ (i := 12) (N := some 159) (v := undef) (a' := ?_) #[true, true, true, true, true, true, true, true, true, true, true, true, true, false, false, false, false, false, false, false, false, false] rfl rfl (any_of HT_.out (by kernel_rfl)) (fun _ _ _ h => h) (Or.inr ⟨by rfl, rfl⟩) ?_ ?_
          rotate_left
          ·
           simp only [Act.put, sT_, s0_, sS_, i64_w, i32_w]
           rfl
          refine pure_ (i := 13) (N := some 160) (v := undef) (a' := ?_) #[true, true, true, true, true, true, true, true, true, true, true, true, true, true, false, false, false, false, false, false, false, false] rfl rfl (any_of HT_.out (by kernel_rfl)) (fun _ _ _ h => h) (Or.inr ⟨by rfl, rfl⟩) ?_ ?_
          rotate_left
          ·
           simp only [Act.put, sT_, s0_, sS_, i64_w, i32_w]
           rfl
          refine pure_ (i := 14) (N := some 161) (v := undef) (a' := ?_) #[true, true, true, true, true, true, true, true, true, true, true, true, true, true, true, false, false, false, false, false, false, false] rfl rfl (any_of HT_.out (by kernel_rfl)) (fun _ _ _ h => h) (Or.inr ⟨by rfl, rfl⟩) ?_ ?_
          rotate_left
          ·
           simp only [Act.put, sT_, s0_, sS_, i64_w, i32_w]
           rfl
          refine pure_ (i := 15) (N := some 162) (v := undef) (a' := ?_) #[true, true, true, true, true, true, true, true, true, true, true, true, true, true, true, true, false, false, false, false, false, false] rfl rfl (any_of HT_.out (by kernel_rfl)) (fun _ _ _ h => h) (Or.inr ⟨by rfl, rfl⟩) ?_ ?_
          rotate_left
          ·
           simp only [Act.put, sT_, s0_, sS_, i64_w, i32_w]
           rfl
          refine pure_ (i := 16) (N := some 163) (v := undef) (a' := ?_) #[true, true, true, true, true, true, true, true, true, true, true, true, true, true, true, true, true, false, false, false, false, false] rfl rfl (any_of HT_.out (by kernel_rfl)) (fun _ _ _ h => h) (Or.inr ⟨by rfl, rfl⟩) ?_ ?_
          rotate_left
          ·
           simp only [Act.put, sT_, s0_, sS_, i64_w, i32_w]
           rfl
          refine pure_ (i := 17) (N := some 164) (v := undef) (a' := ?_) #[true, true, true, true, true, true, true, true, true, true, true, true, true, true, true, true, true, true, false, false, false, false] rfl rfl (any_of HT_.out (by kernel_rfl)) (fun _ _ _ h => h) (Or.inr ⟨by rfl, rfl⟩) ?_ ?_
          rotate_left
          ·
           simp only [Act.put, sT_, s0_, sS_, i64_w, i32_w]
           rfl
          refine pure_ (i := 18) (N := some 165) (v := undef) (a' := ?_) #[true, true, true, true, true, true, true, true, true, true, true, true, true, true, true, true, true, true, true, false, false, false] rfl rfl (any_of HT_.out (by kernel_rfl)) (fun _ _ _ h => h) (Or.inr ⟨by rfl, rfl⟩) ?_ ?_
          rotate_left
          ·
           simp only [Act.put, sT_, s0_, sS_, i64_w, i32_w]
           rfl
          refine pure_ (i := 19) (N := some 166) (v := undef) (a' := ?_) #[true, true, true, true, true, true, true, true, true, true, true, true, true, true, true, true, true, true, true, true, false, false] rfl rfl (any_of HT_.out (by kernel_rfl)) (fun _ _ _ h => h) (Or.inr ⟨by rfl, rfl⟩) ?_ ?_
          rotate_left
          ·
           simp only [Act.put, sT_, s0_, sS_, i64_w, i32_w]
           rfl
          refine pure_ (i := 20) (N := some 167) (v := undef) (a' := ?_) #[true, true, true, true, true, true, true, true, true, true, true, true, true, true, true, true, true, true, true, true, true, false] rfl rfl (any_of HT_.out (by kernel_rfl)) (fun _ _ _ h => h) (Or.inr ⟨by rfl, rfl⟩) ?_ ?_
          rotate_left
          ·
           simp only [Act.put, sT_, s0_, sS_, i64_w, i32_w]
           rfl
          refine pure_ (i := 21) (N := some 168) (v := ?_) (a' := ?_) #[true, true, true, true, true, true, true, true, true, true, true, true, true, true, true, true, true, true, true, true, true, true] rfl rfl (any_of HT_.out (by kernel_rfl)) (fun _ _ _ h => h) (Or.inl ⟨by rfl, ?_⟩) ?_ ?_
          rotate_left
          ·
           intro w'
           go_simp
           with_reducible rfl
          rotate_left
          ·
           simp only [Act.put, sT_, s0_, sS_, i64_w, i32_w]
           rfl
          refine done_ (done_of HT_.out (by kernel_rfl)) ?_
          try go_wp2
          go_meet
          case rel => exact ⟨_, (false), (by first | rfl | (simp; done) | (simp [*]; done)), H', ⟨by have := HJ6.out; have := HJ26.out; first | omega | exact Nat.le_refl _⟩, ⟨by (with_reducible repeat (first | refine blk_drewN ?_ _ | refine blk_drew ?_ | refine blk_alloc ?_ _)); exact BK101.out⟩, ⟨by (with_reducible repeat (first | refine blk_drewN ?_ _ | refine blk_drew ?_ | refine blk_alloc ?_ _)); exact BK108.out⟩, ⟨by (with_reducible repeat (first | refine blk_drewN ?_ _ | refine blk_drew ?_ | refine blk_alloc ?_ _)); exact BK112.out⟩, ⟨by (with_reducible repeat (first | refine blk_drewN ?_ _ | refine blk_drew ?_ | refine blk_alloc ?_ _)); exact BK116.out⟩, ⟨by (with_reducible repeat (first | refine blk_drewN ?_ _ | refine blk_drew ?_ | refine blk_alloc ?_ _)); exact BK120.out⟩, ⟨by repeat (first | (with_reducible first | exact HB.out | apply below_alloc | apply pw_below_drewN | apply below_drew1 | refine below_set ?_ GE101.out | refine below_set ?_ GE108.out | refine below_set ?_ GE112.out | refine below_set ?_ GE116.out | refine below_set ?_ GE120.out) | exact HB.out)⟩⟩
        case rest =>
         clear HC97
         try clear p2
         try clear c3
         try clear p6
         try clear c9
         try clear c35
         try clear p64
         try clear c96
         try clear c98
         try clear c98b0
         try clear c98b1
         try clear hcz12_6
         try clear hcz12_7
         try clear hcz12_8
         try clear hcz14_0
         try clear hcz14_1
         try clear hcz14_2
         try clear hcz14_3
         try clear hcz14_4
         try clear hcz14_5
         try clear hcz14_6
         try clear hcz14_7
         try clear hcz14_8
         try clear hcz28_0
         try clear hcz28_1
         try clear hcz28_2
         try clear hcz28_3
         try clear hcz28_4
         try clear hcz28_5
         try clear hcz28_6
         try clear hcz28_7
         try clear hcz28_8
         try clear hcz31_0
         try clear hcz31_1
         try clear hcz31_2
         try clear hcz31_3
         try clear hcz31_4
         try clear hcz31_5
         try clear hcz31_6
         try clear hcz31_7
         try clear hcz31_8
         try clear hcz35_0
         try clear hcz35_1
         try clear hcz36_0
         try clear hcz36_1
         try clear hcz36_2
         try clear hcz36_3
         try clear hcz36_4
         try clear hcz36_5
         try clear hcz36_6
         try clear hcz36_7
         try clear hcz36_8
         try clear hcz41_0
         try clear hcz41_1
         try clear hcz42_0
         try clear hcz42_1
         try clear hcz42_2
         try clear hcz42_3
         try clear hcz42_4
         try clear hcz42_5
         try clear hcz42_6
         try clear hcz42_7
         try clear hcz42_8
         try clear hcz48_0
         try clear hcz48_1
         try clear hcz49_0
         try clear hcz49_1
         try clear hcz49_2
         try clear hcz49_3
         try clear hcz49_4
         try clear hcz49_5
         try clear hcz49_6
         try clear hcz49_7
         try clear hcz49_8
         try clear hcz56_0
         try clear hcz56_1
         try clear hcz66_0
         try clear hcz66_1
         try clear hcz72_0
         try clear hcz72_1
         try clear hcz76_0
         try clear hcz76_1
         try clear hcz79_0
         try clear hcz79_1
         try clear hcz81_0
         try clear hcz81_1
         try clear hcz86_0
         try clear hcz86_1
         try clear hcz90_0
         try clear hcz90_1
         try clear hcz93_0
         try clear hcz93_1
         try clear hcz95_0
         try clear hcz95_1
         try clear hfz12_0
         try clear hfz12_1
         try clear hfz12_2
         try clear hfz12_3
         try clear hfz12_4
         try clear hfz12_5
         try clear hfz12_6
         try clear hfz12_7
         try clear hfz12_8
         try clear hfz14_0
         try clear hfz14_1
         try clear hfz14_2
         try clear hfz14_3
         try clear hfz14_4
         try clear hfz14_5
         try clear hfz14_6
         try clear hfz14_7
         try clear hfz14_8
         try clear hfz28_0
         try clear hfz28_1
         try clear hfz28_2
         try clear hfz28_3
         try clear hfz28_4
         try clear hfz28_5
         try clear hfz28_6
         try clear hfz28_7
         try clear hfz28_8
         try clear hfz31_0
         try clear hfz31_1
         try clear hfz31_2
         try clear hfz31_3
         try clear hfz31_4
         try clear hfz31_5
         try clear hfz31_6
         try clear hfz31_7
         try clear hfz31_8
         try clear hfz35_0
         try clear hfz35_1
         try clear hfz36_0
         try clear hfz36_1
         try clear hfz36_2
         try clear hfz36_3
         try clear hfz36_4
         try clear hfz36_5
         try clear hfz36_6
         try clear hfz36_7
         try clear hfz36_8
         try clear hfz41_0
         try clear hfz41_1
         try clear hfz42_0
         try clear hfz42_1
         try clear hfz42_2
         try clear hfz42_3
         try clear hfz42_4
         try clear hfz42_5
         try clear hfz42_6
         try clear hfz42_7
         try clear hfz42_8
         try clear hfz48_0
         try clear hfz48_1
         try clear hfz49_0
         try clear hfz49_1
         try clear hfz49_2
         try clear hfz49_3
         try clear hfz49_4
         try clear hfz49_5
         try clear hfz49_6
         try clear hfz49_7
         try clear hfz49_8
         try clear hfz56_0
         try clear hfz56_1
         try clear hfz66_0
         try clear hfz66_1
         try clear hfz72_0
         try clear hfz72_1
         try clear hfz76_0
         try clear hfz76_1
         try clear hfz79_0
         try clear hfz79_1
         try clear hfz81_0
         try clear hfz81_1
         try clear hfz86_0
         try clear hfz86_1
         try clear hfz90_0
         try clear hfz90_1
         try clear hfz93_0
         try clear hfz93_1
         try clear hfz95_0
         try clear hfz95_1
         try clear p2
         obtain ⟨kq, x168_96, rfl, HA, HJ96, BK101, BK108, BK112, BK116, BK120, HB⟩ := hcut
         cases kq with
         | zero => exact absurd HA.out (by simp [cottonpadlaw04_BurnClosed.j2])
         | succ kj96 =>
          have H := HA.out
          clear HA
          simp only [cottonpadlaw04_BurnClosed.j2] at H
          by_cases c103 : x168_96 = true
          ·
           subst c103
           have H1 : (none) = some r := by rw [if_pos rfl] at H; exact H
           clear H
           have H := H1
           clear H1
           exact absurd H (by simp)
          ·
           replace c103 := Bool.eq_false_iff.mpr c103
           subst c103
           have H1 : (if (wrap64 ((wrap64 ((wrap64 ((wrap64 ((Int.tmod (wrap64 (a2)) (wrap64 (t104 + 1))) + (Int.tmod (wrap64 (a3)) (wrap64 (t104 + 1))))) + (Int.tmod (wrap64 (a4)) (wrap64 (t104 + 1))))) - (ji20))) - (ji22))) = t104 then (some t102) else ((burn_Heat.f kj96 a0_0 a0_1 a0_2 a0_3 a0_4 a0_5 a0_6 a0_7 a0_8 l1 (wrap64 ((wrap64 ((wrap64 ((wrap64 ((Int.tmod (wrap64 (a2)) (wrap64 (t104 + 1))) + (Int.tmod (wrap64 (a3)) (wrap64 (t104 + 1))))) + (Int.tmod (wrap64 (a4)) (wrap64 (t104 + 1))))) - (ji20))) - (ji22)))).bind fun bt123 => ((burn_Sum.f kj96 a0_0 a0_1 a0_2 a0_3 a0_4 a0_5 a0_6 a0_7 a0_8 l1 (wrap64 ((wrap64 ((wrap64 ((wrap64 ((Int.tmod (wrap64 (a2)) (wrap64 (t104 + 1))) + (Int.tmod (wrap64 (a3)) (wrap64 (t104 + 1))))) + (Int.tmod (wrap64 (a4)) (wrap64 (t104 + 1))))) - (ji20))) - (ji22))) (wrap64 ((wrap64 ((wrap64 ((wrap64 ((wrap64 ((Int.tmod (wrap64 (a2)) (wrap64 (t104 + 1))) + (Int.tmod (wrap64 (a3)) (wrap64 (t104 + 1))))) + (Int.tmod (wrap64 (a4)) (wrap64 (t104 + 1))))) - (ji20))) - (ji22))) + 1))).bind fun bt127 => (if t102 = true then (if bt123.2.2 = 0 then (if bt127.2.2 = 0 then (some (bt123.1 == bt127.1 && (bt123.2.1 == bt127.2.1))) else (none)) else (none)) else (none))))) = some r := by rw [if_neg (show ¬ (false = true) by decide)] at H; exact H
           clear H
           have H := H1
           clear H1
           by_cases c104 : (wrap64 ((wrap64 ((wrap64 ((wrap64 ((Int.tmod (wrap64 (a2)) (wrap64 (t104 + 1))) + (Int.tmod (wrap64 (a3)) (wrap64 (t104 + 1))))) + (Int.tmod (wrap64 (a4)) (wrap64 (t104 + 1))))) - (ji20))) - (ji22))) = t104
           ·
            rw [if_pos c104] at H
            have c104b0 : ((wrap64 ((wrap64 ((wrap64 ((wrap64 ((Int.tmod (wrap64 (a2)) (wrap64 (t104 + 1))) + (Int.tmod (wrap64 (a3)) (wrap64 (t104 + 1))))) + (Int.tmod (wrap64 (a4)) (wrap64 (t104 + 1))))) - (ji20))) - (ji22))) == t104) = true := beq_iff_eq.mpr c104
            have c104b1 : ((wrap64 ((wrap64 ((wrap64 ((wrap64 ((Int.tmod (wrap64 (a2)) (wrap64 (t104 + 1))) + (Int.tmod (wrap64 (a3)) (wrap64 (t104 + 1))))) + (Int.tmod (wrap64 (a4)) (wrap64 (t104 + 1))))) - (ji20))) - (ji22))) != t104) = false := bne_eq_false_iff_eq.mpr c104
            clear c104
            obtain rfl := Option.some.inj H
            go_wp2
            go_ret
            exact ⟨by first | rfl | (simp [errW_none, errW_some] <;> rfl) | (simp only [← hji19, ← hji20, ← hji21, ← hji22]; first | rfl | (simp [errW_none, errW_some] <;> rfl)) | (simp [*, errW_none, errW_some] <;> rfl), by repeat (first | (with_reducible first | exact HB.out | apply below_alloc | apply pw_below_drewN | apply below_drew1 | refine below_set ?_ GE101.out | refine below_set ?_ GE108.out | refine below_set ?_ GE112.out | refine below_set ?_ GE116.out | refine below_set ?_ GE120.out) | exact HB.out)⟩
           ·
            rw [if_neg c104] at H
            have c104b0 : ((wrap64 ((wrap64 ((wrap64 ((wrap64 ((Int.tmod (wrap64 (a2)) (wrap64 (t104 + 1))) + (Int.tmod (wrap64 (a3)) (wrap64 (t104 + 1))))) + (Int.tmod (wrap64 (a4)) (wrap64 (t104 + 1))))) - (ji20))) - (ji22))) == t104) = false := beq_eq_false_iff_ne.mpr c104
            have c104b1 : ((wrap64 ((wrap64 ((wrap64 ((wrap64 ((Int.tmod (wrap64 (a2)) (wrap64 (t104 + 1))) + (Int.tmod (wrap64 (a3)) (wrap64 (t104 + 1))))) + (Int.tmod (wrap64 (a4)) (wrap64 (t104 + 1))))) - (ji20))) - (ji22))) != t104) = true := bne_iff_ne.mpr c104
            replace H := Option.bind_eq_some_iff.mp H
            obtain ⟨⟨t123, t124, t125⟩, A1050, H⟩ := H
            try dsimp only at H
            have A105 := A_ A1050
            clear A1050
            replace H := Option.bind_eq_some_iff.mp H
            obtain ⟨⟨t127, t128, t129⟩, A1060, H⟩ := H
            try dsimp only at H
            have A106 := A_ A1060
            clear A1060
            by_cases c107 : t102 = true
            ·
             subst c107
             have H1 : (if t125 = 0 then (if t129 = 0 then (some (t123 == t127 && (t124 == t128))) else (none)) else (none)) = some r := by rw [if_pos rfl] at H; exact H
             clear H
             have H := H1
             clear H1
             by_cases c108 : t125 = 0
             ·
              rw [if_pos c108] at H
              have c108b0 : (t125 == 0) = true := beq_iff_eq.mpr c108
              have c108b1 : (t125 != 0) = false := bne_eq_false_iff_eq.mpr c108
              clear c108
              by_cases c109 : t129 = 0
              ·
               rw [if_pos c109] at H
               have c109b0 : (t129 == 0) = true := beq_iff_eq.mpr c109
               have c109b1 : (t129 != 0) = false := bne_eq_false_iff_eq.mpr c109
               clear c109
               obtain rfl := Option.some.inj H
               have hnb110 := NB101_108.out
               have hnc110 := NB108_101.out
               have hnb111 := NB101_112.out
               have hnc111 := NB112_101.out
               have hnb112 := NB101_116.out
               have hnc112 := NB116_101.out
               have hnb113 := NB101_120.out
               have hnc113 := NB120_101.out
               have hcz114_0 : wc.cell? ⟨gb101, 0, none⟩ = some (.int .i64 a0_0) := (blk_cell BK101.out 0).trans rfl
               have hcz114_1 : wc.cell? ⟨gb101, 1, none⟩ = some (.int .i64 a0_1) := (blk_cell BK101.out 1).trans rfl
               have hcz114_2 : wc.cell? ⟨gb101, 2, none⟩ = some (.int .i64 a0_2) := (blk_cell BK101.out 2).trans rfl
               have hcz114_3 : wc.cell? ⟨gb101, 3, none⟩ = some (.int .i64 a0_3) := (blk_cell BK101.out 3).trans rfl
               have hcz114_4 : wc.cell? ⟨gb101, 4, none⟩ = some (.int .i64 a0_4) := (blk_cell BK101.out 4).trans rfl
               have hcz114_5 : wc.cell? ⟨gb101, 5, none⟩ = some (.int .i64 a0_5) := (blk_cell BK101.out 5).trans rfl
               have hcz114_6 : wc.cell? ⟨gb101, 6, none⟩ = some (.int .i64 a0_6) := (blk_cell BK101.out 6).trans rfl
               have hcz114_7 : wc.cell? ⟨gb101, 7, none⟩ = some (.int .i64 a0_7) := (blk_cell BK101.out 7).trans rfl
               have hcz114_8 : wc.cell? ⟨gb101, 8, none⟩ = some (.int .i64 a0_8) := (blk_cell BK101.out 8).trans rfl
               have hfz114_0 := blk_frozen BK101.out 0
               have hfz114_1 := blk_frozen BK101.out 1
               have hfz114_2 := blk_frozen BK101.out 2
               have hfz114_3 := blk_frozen BK101.out 3
               have hfz114_4 := blk_frozen BK101.out 4
               have hfz114_5 := blk_frozen BK101.out 5
               have hfz114_6 := blk_frozen BK101.out 6
               have hfz114_7 := blk_frozen BK101.out 7
               have hfz114_8 := blk_frozen BK101.out 8
               go_wp2_with (first | ((with_reducible refine gate_callee (f := 12) rfl ?_); refine goesL_ (some 177) rfl rfl Tryd.func12 (by kernel_rfl) rfl #[.agg #[.int .i64 a0_0, .int .i64 a0_1, .int .i64 a0_2, .int .i64 a0_3, .int .i64 a0_4, .int .i64 a0_5, .int .i64 a0_6, .int .i64 a0_7, .int .i64 a0_8], .slice A1 l1.length c1, .int .i64 (wrap64 ((wrap64 ((wrap64 ((wrap64 ((Int.tmod (wrap64 (a2)) (wrap64 (t104 + 1))) + (Int.tmod (wrap64 (a3)) (wrap64 (t104 + 1))))) + (Int.tmod (wrap64 (a4)) (wrap64 (t104 + 1))))) - (ji20))) - (ji22)))] rfl (by (try simp only [List.map_toArray, List.map_cons, List.map_nil]); first | done | (simp only [hji20, hji22]; rfl) | rfl | (simp only [List.length_drop, List.length_take]; rfl)) ?_; (with_reducible refine (burn_Heat.calls kj96 a0_0 a0_1 a0_2 a0_3 a0_4 a0_5 a0_6 a0_7 a0_8 _ _ l1 (wrap64 ((wrap64 ((wrap64 ((wrap64 ((Int.tmod (wrap64 (a2)) (wrap64 (t104 + 1))) + (Int.tmod (wrap64 (a3)) (wrap64 (t104 + 1))))) + (Int.tmod (wrap64 (a4)) (wrap64 (t104 + 1))))) - (ji20))) - (ji22))) t123 t124 t125 _ ?side1 ?side2 ?side3 A105.out).mono ?_); (case side1 => repeat (first | exact (Kd.C_below HR1.out HB.out) | (with_reducible refine Kd.C_alloc ?_ _) | (with_reducible refine Kd.C_drewN ?_ _) | (with_reducible refine Kd.C_drew ?_))); (case side2 => exact HC1.out); (case side3 => exact GlobOK.below HG.out (by repeat (first | (with_reducible first | exact HB.out | apply below_alloc | apply pw_below_drewN | apply below_drew1 | refine below_set ?_ GE101.out | refine below_set ?_ GE108.out | refine below_set ?_ GE112.out | refine below_set ?_ GE116.out | refine below_set ?_ GE120.out) | exact HB.out))); rintro e w115 ⟨rfl, hb⟩; refine ⟨_, rfl, ?_⟩; have n0_ := bb_ BK101.out hb; have n1_ := bb_ BK108.out hb; have n2_ := bb_ BK112.out hb; have n3_ := bb_ BK116.out hb; have n4_ := bb_ BK120.out hb; have n5_ := A_ (below_step (by repeat (first | (with_reducible first | exact HB.out | apply below_alloc | apply pw_below_drewN | apply below_drew1 | refine below_set ?_ GE101.out | refine below_set ?_ GE108.out | refine below_set ?_ GE112.out | refine below_set ?_ GE116.out | refine below_set ?_ GE120.out) | exact HB.out)) hb); clear BK101; clear BK108; clear BK112; clear BK116; clear BK120; clear HB; have BK101 := n0_; have BK108 := n1_; have BK112 := n2_; have BK116 := n3_; have BK120 := n4_; have HB := n5_; clear n0_ n1_ n2_ n3_ n4_ n5_; (try clear hb); (try clear hb2); (try clear hk); (try clear hi)) | ((with_reducible refine gate_dst (N := 27) rfl ?_); refine box_event ?hg (N := 27) ?hd (cs := #[.int .i64 0, .int .i64 0]) (t := 23) ?hr ?_; (case hd => rfl); (case hg => rfl); (case hr => first | (go_simp; done) | (go_simp; rfl)); intro gb126 hg w116 hbox hb; have n0_ := bb_ BK101.out hb; have n1_ := bb_ BK108.out hb; have n2_ := bb_ BK112.out hb; have n3_ := bb_ BK116.out hb; have n4_ := bb_ BK120.out hb; have n5_ := A_ (below_step (by repeat (first | (with_reducible first | exact HB.out | apply below_alloc | apply pw_below_drewN | apply below_drew1 | refine below_set ?_ GE101.out | refine below_set ?_ GE108.out | refine below_set ?_ GE112.out | refine below_set ?_ GE116.out | refine below_set ?_ GE120.out) | exact HB.out)) hb); have n6_ := A_ (hbox); have n7_ := A_ ((by rw [hg]; exact (below_size (by repeat (first | (with_reducible first | exact HB.out | apply below_alloc | apply pw_below_drewN | apply below_drew1 | refine below_set ?_ GE101.out | refine below_set ?_ GE108.out | refine below_set ?_ GE112.out | refine below_set ?_ GE116.out | refine below_set ?_ GE120.out) | exact HB.out))) : w.heap.size ≤ gb126)); have n8_ := A_ ((by rw [hg]; exact (below_size (by repeat (first | (with_reducible first | exact HB.out | apply below_alloc | apply pw_below_drewN | apply below_drew1 | refine below_set ?_ GE101.out | refine below_set ?_ GE108.out | refine below_set ?_ GE112.out | refine below_set ?_ GE116.out | refine below_set ?_ GE120.out) | exact HB.out))) : w.heap.size ≤ gb126)); have n9_ := A_ ((by rw [hg]; exact Nat.ne_of_lt (blk_lt (g := gb101) (o := .cells #[.int .i64 a0_0, .int .i64 a0_1, .int .i64 a0_2, .int .i64 a0_3, .int .i64 a0_4, .int .i64 a0_5, .int .i64 a0_6, .int .i64 a0_7, .int .i64 a0_8] 25 (0, 0)) (bk_ BK101.out)) : gb101 ≠ gb126)); have n10_ := A_ ((by rw [hg]; exact Nat.ne_of_gt (blk_lt (g := gb101) (o := .cells #[.int .i64 a0_0, .int .i64 a0_1, .int .i64 a0_2, .int .i64 a0_3, .int .i64 a0_4, .int .i64 a0_5, .int .i64 a0_6, .int .i64 a0_7, .int .i64 a0_8] 25 (0, 0)) (bk_ BK101.out)) : gb126 ≠ gb101)); have n11_ := A_ ((by rw [hg]; exact Nat.ne_of_lt (blk_lt (g := gb108) (o := .cells #[.int .i64 t105, .int .i64 t106] 23 (0, 0)) (bk_ BK108.out)) : gb108 ≠ gb126)); have n12_ := A_ ((by rw [hg]; exact Nat.ne_of_gt (blk_lt (g := gb108) (o := .cells #[.int .i64 t105, .int .i64 t106] 23 (0, 0)) (bk_ BK108.out)) : gb126 ≠ gb108)); have n13_ := A_ ((by rw [hg]; exact Nat.ne_of_lt (blk_lt (g := gb112) (o := .cells #[.int .i64 t109, .int .i64 t110] 23 (0, 0)) (bk_ BK112.out)) : gb112 ≠ gb126)); have n14_ := A_ ((by rw [hg]; exact Nat.ne_of_gt (blk_lt (g := gb112) (o := .cells #[.int .i64 t109, .int .i64 t110] 23 (0, 0)) (bk_ BK112.out)) : gb126 ≠ gb112)); have n15_ := A_ ((by rw [hg]; exact Nat.ne_of_lt (blk_lt (g := gb116) (o := .cells #[.int .i64 t113, .int .i64 t114] 23 (0, 0)) (bk_ BK116.out)) : gb116 ≠ gb126)); have n16_ := A_ ((by rw [hg]; exact Nat.ne_of_gt (blk_lt (g := gb116) (o := .cells #[.int .i64 t113, .int .i64 t114] 23 (0, 0)) (bk_ BK116.out)) : gb126 ≠ gb116)); have n17_ := A_ ((by rw [hg]; exact Nat.ne_of_lt (blk_lt (g := gb120) (o := .cells #[.int .i64 t117, .int .i64 t118] 23 (0, 0)) (bk_ BK120.out)) : gb120 ≠ gb126)); have n18_ := A_ ((by rw [hg]; exact Nat.ne_of_gt (blk_lt (g := gb120) (o := .cells #[.int .i64 t117, .int .i64 t118] 23 (0, 0)) (bk_ BK120.out)) : gb126 ≠ gb120)); clear BK101; clear BK108; clear BK112; clear BK116; clear BK120; clear HB; have BK101 := n0_; have BK108 := n1_; have BK112 := n2_; have BK116 := n3_; have BK120 := n4_; have HB := n5_; have BK126 := n6_; have GW126 := n7_; have GE126 := n8_; have NB101_126 := n9_; have NB126_101 := n10_; have NB108_126 := n11_; have NB126_108 := n12_; have NB112_126 := n13_; have NB126_112 := n14_; have NB116_126 := n15_; have NB126_116 := n16_; have NB120_126 := n17_; have NB126_120 := n18_; clear n0_ n1_ n2_ n3_ n4_ n5_ n6_ n7_ n8_ n9_ n10_ n11_ n12_ n13_ n14_ n15_ n16_ n17_ n18_; clear hb hbox hg; have hnb117 := NB126_101.out; have hnc117 := NB101_126.out; have hnb118 := NB126_108.out; have hnc118 := NB108_126.out; have hnb119 := NB126_112.out; have hnc119 := NB112_126.out; have hnb120 := NB126_116.out; have hnc120 := NB116_126.out; have hnb121 := NB126_120.out; have hnc121 := NB120_126.out; have hcz122_0 : w116.cell? ⟨gb126, 0, none⟩ = some (.int .i64 0) := (blk_cell BK126.out 0).trans rfl; have hcz122_1 : w116.cell? ⟨gb126, 1, none⟩ = some (.int .i64 0) := (blk_cell BK126.out 1).trans rfl; have hfz122_0 := blk_frozen BK126.out 0; have hfz122_1 := blk_frozen BK126.out 1; have hcz123_0 : w116.cell? ⟨gb101, 0, none⟩ = some (.int .i64 a0_0) := (blk_cell BK101.out 0).trans rfl; have hcz123_1 : w116.cell? ⟨gb101, 1, none⟩ = some (.int .i64 a0_1) := (blk_cell BK101.out 1).trans rfl; have hcz123_2 : w116.cell? ⟨gb101, 2, none⟩ = some (.int .i64 a0_2) := (blk_cell BK101.out 2).trans rfl; have hcz123_3 : w116.cell? ⟨gb101, 3, none⟩ = some (.int .i64 a0_3) := (blk_cell BK101.out 3).trans rfl; have hcz123_4 : w116.cell? ⟨gb101, 4, none⟩ = some (.int .i64 a0_4) := (blk_cell BK101.out 4).trans rfl; have hcz123_5 : w116.cell? ⟨gb101, 5, none⟩ = some (.int .i64 a0_5) := (blk_cell BK101.out 5).trans rfl; have hcz123_6 : w116.cell? ⟨gb101, 6, none⟩ = some (.int .i64 a0_6) := (blk_cell BK101.out 6).trans rfl; have hcz123_7 : w116.cell? ⟨gb101, 7, none⟩ = some (.int .i64 a0_7) := (blk_cell BK101.out 7).trans rfl; have hcz123_8 : w116.cell? ⟨gb101, 8, none⟩ = some (.int .i64 a0_8) := (blk_cell BK101.out 8).trans rfl; have hfz123_0 := blk_frozen BK101.out 0; have hfz123_1 := blk_frozen BK101.out 1; have hfz123_2 := blk_frozen BK101.out 2; have hfz123_3 := blk_frozen BK101.out 3; have hfz123_4 := blk_frozen BK101.out 4; have hfz123_5 := blk_frozen BK101.out 5; have hfz123_6 := blk_frozen BK101.out 6; have hfz123_7 := blk_frozen BK101.out 7; have hfz123_8 := blk_frozen BK101.out 8) | ((with_reducible refine gate_callee (f := 14) rfl ?_); refine goesL_ (some 186) rfl rfl Tryd.func14 (by kernel_rfl) rfl #[.agg #[.int .i64 a0_0, .int .i64 a0_1, .int .i64 a0_2, .int .i64 a0_3, .int .i64 a0_4, .int .i64 a0_5, .int .i64 a0_6, .int .i64 a0_7, .int .i64 a0_8], .slice A1 l1.length c1, .int .i64 (wrap64 ((wrap64 ((wrap64 ((wrap64 ((Int.tmod (wrap64 (a2)) (wrap64 (t104 + 1))) + (Int.tmod (wrap64 (a3)) (wrap64 (t104 + 1))))) + (Int.tmod (wrap64 (a4)) (wrap64 (t104 + 1))))) - (ji20))) - (ji22))), .int .i64 (wrap64 ((wrap64 ((wrap64 ((wrap64 ((wrap64 ((Int.tmod (wrap64 (a2)) (wrap64 (t104 + 1))) + (Int.tmod (wrap64 (a3)) (wrap64 (t104 + 1))))) + (Int.tmod (wrap64 (a4)) (wrap64 (t104 + 1))))) - (ji20))) - (ji22))) + 1))] rfl (by (try simp only [List.map_toArray, List.map_cons, List.map_nil]); first | done | (simp only [hji20, hji22]; rfl) | rfl | (simp only [List.length_drop, List.length_take]; rfl)) ?_; (with_reducible refine (burn_Sum.calls kj96 a0_0 a0_1 a0_2 a0_3 a0_4 a0_5 a0_6 a0_7 a0_8 _ _ l1 (wrap64 ((wrap64 ((wrap64 ((wrap64 ((Int.tmod (wrap64 (a2)) (wrap64 (t104 + 1))) + (Int.tmod (wrap64 (a3)) (wrap64 (t104 + 1))))) + (Int.tmod (wrap64 (a4)) (wrap64 (t104 + 1))))) - (ji20))) - (ji22))) (wrap64 ((wrap64 ((wrap64 ((wrap64 ((wrap64 ((Int.tmod (wrap64 (a2)) (wrap64 (t104 + 1))) + (Int.tmod (wrap64 (a3)) (wrap64 (t104 + 1))))) + (Int.tmod (wrap64 (a4)) (wrap64 (t104 + 1))))) - (ji20))) - (ji22))) + 1)) t127 t128 t129 _ ?side1 ?side2 ?side3 A106.out).mono ?_); (case side1 => exact Kd.C_below HR1.out (by repeat (first | (with_reducible first | exact HB.out | apply below_alloc | apply pw_below_drewN | apply below_drew1 | refine below_set ?_ GE101.out | refine below_set ?_ GE108.out | refine below_set ?_ GE112.out | refine below_set ?_ GE116.out | refine below_set ?_ GE120.out | refine below_set ?_ GE126.out) | exact HB.out))); (case side2 => exact HC1.out); (case side3 => exact GlobOK.below HG.out (by repeat (first | (with_reducible first | exact HB.out | apply below_alloc | apply pw_below_drewN | apply below_drew1 | refine below_set ?_ GE101.out | refine below_set ?_ GE108.out | refine below_set ?_ GE112.out | refine below_set ?_ GE116.out | refine below_set ?_ GE120.out | refine below_set ?_ GE126.out) | exact HB.out))); rintro e w124 ⟨rfl, hb⟩; refine ⟨_, rfl, ?_⟩; have n0_ := A_ (blk_below (g := gb101) (o := .cells #[.int .i64 a0_0, .int .i64 a0_1, .int .i64 a0_2, .int .i64 a0_3, .int .i64 a0_4, .int .i64 a0_5, .int .i64 a0_6, .int .i64 a0_7, .int .i64 a0_8] 25 (0, 0)) (by (with_reducible repeat (first | refine blk_drewN ?_ _ | refine blk_drew ?_ | refine blk_alloc ?_ _)); refine blk_far ?_ NB101_126.out _; (with_reducible repeat (first | refine blk_drewN ?_ _ | refine blk_drew ?_ | refine blk_alloc ?_ _)); refine blk_far ?_ NB101_126.out _; (with_reducible repeat (first | refine blk_drewN ?_ _ | refine blk_drew ?_ | refine blk_alloc ?_ _)); exact BK101.out) hb); have n1_ := A_ (blk_below (g := gb108) (o := .cells #[.int .i64 t105, .int .i64 t106] 23 (0, 0)) (by (with_reducible repeat (first | refine blk_drewN ?_ _ | refine blk_drew ?_ | refine blk_alloc ?_ _)); refine blk_far ?_ NB108_126.out _; (with_reducible repeat (first | refine blk_drewN ?_ _ | refine blk_drew ?_ | refine blk_alloc ?_ _)); refine blk_far ?_ NB108_126.out _; (with_reducible repeat (first | refine blk_drewN ?_ _ | refine blk_drew ?_ | refine blk_alloc ?_ _)); exact BK108.out) hb); have n2_ := A_ (blk_below (g := gb112) (o := .cells #[.int .i64 t109, .int .i64 t110] 23 (0, 0)) (by (with_reducible repeat (first | refine blk_drewN ?_ _ | refine blk_drew ?_ | refine blk_alloc ?_ _)); refine blk_far ?_ NB112_126.out _; (with_reducible repeat (first | refine blk_drewN ?_ _ | refine blk_drew ?_ | refine blk_alloc ?_ _)); refine blk_far ?_ NB112_126.out _; (with_reducible repeat (first | refine blk_drewN ?_ _ | refine blk_drew ?_ | refine blk_alloc ?_ _)); exact BK112.out) hb); have n3_ := A_ (blk_below (g := gb116) (o := .cells #[.int .i64 t113, .int .i64 t114] 23 (0, 0)) (by (with_reducible repeat (first | refine blk_drewN ?_ _ | refine blk_drew ?_ | refine blk_alloc ?_ _)); refine blk_far ?_ NB116_126.out _; (with_reducible repeat (first | refine blk_drewN ?_ _ | refine blk_drew ?_ | refine blk_alloc ?_ _)); refine blk_far ?_ NB116_126.out _; (with_reducible repeat (first | refine blk_drewN ?_ _ | refine blk_drew ?_ | refine blk_alloc ?_ _)); exact BK116.out) hb); have n4_ := A_ (blk_below (g := gb120) (o := .cells #[.int .i64 t117, .int .i64 t118] 23 (0, 0)) (by (with_reducible repeat (first | refine blk_drewN ?_ _ | refine blk_drew ?_ | refine blk_alloc ?_ _)); refine blk_far ?_ NB120_126.out _; (with_reducible repeat (first | refine blk_drewN ?_ _ | refine blk_drew ?_ | refine blk_alloc ?_ _)); refine blk_far ?_ NB120_126.out _; (with_reducible repeat (first | refine blk_drewN ?_ _ | refine blk_drew ?_ | refine blk_alloc ?_ _)); exact BK120.out) hb); have n5_ := A_ (blk_below (g := gb126) (o := .cells #[.int .i64 t123, .int .i64 t124] 23 (0, 0)) (by (with_reducible repeat (first | refine blk_drewN ?_ _ | refine blk_drew ?_ | refine blk_alloc ?_ _)); refine blk_put (cs := #[.int .i64 t123, .int .i64 0]) ?_ 1 _ rfl; (with_reducible repeat (first | refine blk_drewN ?_ _ | refine blk_drew ?_ | refine blk_alloc ?_ _)); refine blk_put (cs := #[.int .i64 0, .int .i64 0]) ?_ 0 _ rfl; (with_reducible repeat (first | refine blk_drewN ?_ _ | refine blk_drew ?_ | refine blk_alloc ?_ _)); exact BK126.out) hb); have n6_ := A_ (below_step (by repeat (first | (with_reducible first | exact HB.out | apply below_alloc | apply pw_below_drewN | apply below_drew1 | refine below_set ?_ GE101.out | refine below_set ?_ GE108.out | refine below_set ?_ GE112.out | refine below_set ?_ GE116.out | refine below_set ?_ GE120.out | refine below_set ?_ GE126.out) | exact HB.out)) hb); clear BK101; clear BK108; clear BK112; clear BK116; clear BK120; clear BK126; clear HB; have BK101 := n0_; have BK108 := n1_; have BK112 := n2_; have BK116 := n3_; have BK120 := n4_; have BK126 := n5_; have HB := n6_; clear n0_ n1_ n2_ n3_ n4_ n5_ n6_; (try clear hb); (try clear hb2); (try clear hk); (try clear hi)) | ((with_reducible refine gate_dst (N := 29) rfl ?_); refine box_event ?hg (N := 29) ?hd (cs := #[.int .i64 0, .int .i64 0]) (t := 23) ?hr ?_; (case hd => rfl); (case hg => rfl); (case hr => first | (go_simp; done) | (go_simp; rfl)); intro gb130 hg w125 hbox hb; have n0_ := bb_ BK101.out hb; have n1_ := bb_ BK108.out hb; have n2_ := bb_ BK112.out hb; have n3_ := bb_ BK116.out hb; have n4_ := bb_ BK120.out hb; have n5_ := bb_ BK126.out hb; have n6_ := A_ (below_step (by repeat (first | (with_reducible first | exact HB.out | apply below_alloc | apply pw_below_drewN | apply below_drew1 | refine below_set ?_ GE101.out | refine below_set ?_ GE108.out | refine below_set ?_ GE112.out | refine below_set ?_ GE116.out | refine below_set ?_ GE120.out | refine below_set ?_ GE126.out) | exact HB.out)) hb); have n7_ := A_ (hbox); have n8_ := A_ ((by rw [hg]; exact (below_size (by repeat (first | (with_reducible first | exact HB.out | apply below_alloc | apply pw_below_drewN | apply below_drew1 | refine below_set ?_ GE101.out | refine below_set ?_ GE108.out | refine below_set ?_ GE112.out | refine below_set ?_ GE116.out | refine below_set ?_ GE120.out | refine below_set ?_ GE126.out) | exact HB.out))) : w.heap.size ≤ gb130)); have n9_ := A_ ((by rw [hg]; exact (below_size (by repeat (first | (with_reducible first | exact HB.out | apply below_alloc | apply pw_below_drewN | apply below_drew1 | refine below_set ?_ GE101.out | refine below_set ?_ GE108.out | refine below_set ?_ GE112.out | refine below_set ?_ GE116.out | refine below_set ?_ GE120.out | refine below_set ?_ GE126.out) | exact HB.out))) : w.heap.size ≤ gb130)); have n10_ := A_ ((by rw [hg]; exact Nat.ne_of_lt (blk_lt (g := gb101) (o := .cells #[.int .i64 a0_0, .int .i64 a0_1, .int .i64 a0_2, .int .i64 a0_3, .int .i64 a0_4, .int .i64 a0_5, .int .i64 a0_6, .int .i64 a0_7, .int .i64 a0_8] 25 (0, 0)) (bk_ BK101.out)) : gb101 ≠ gb130)); have n11_ := A_ ((by rw [hg]; exact Nat.ne_of_gt (blk_lt (g := gb101) (o := .cells #[.int .i64 a0_0, .int .i64 a0_1, .int .i64 a0_2, .int .i64 a0_3, .int .i64 a0_4, .int .i64 a0_5, .int .i64 a0_6, .int .i64 a0_7, .int .i64 a0_8] 25 (0, 0)) (bk_ BK101.out)) : gb130 ≠ gb101)); have n12_ := A_ ((by rw [hg]; exact Nat.ne_of_lt (blk_lt (g := gb108) (o := .cells #[.int .i64 t105, .int .i64 t106] 23 (0, 0)) (bk_ BK108.out)) : gb108 ≠ gb130)); have n13_ := A_ ((by rw [hg]; exact Nat.ne_of_gt (blk_lt (g := gb108) (o := .cells #[.int .i64 t105, .int .i64 t106] 23 (0, 0)) (bk_ BK108.out)) : gb130 ≠ gb108)); have n14_ := A_ ((by rw [hg]; exact Nat.ne_of_lt (blk_lt (g := gb112) (o := .cells #[.int .i64 t109, .int .i64 t110] 23 (0, 0)) (bk_ BK112.out)) : gb112 ≠ gb130)); have n15_ := A_ ((by rw [hg]; exact Nat.ne_of_gt (blk_lt (g := gb112) (o := .cells #[.int .i64 t109, .int .i64 t110] 23 (0, 0)) (bk_ BK112.out)) : gb130 ≠ gb112)); have n16_ := A_ ((by rw [hg]; exact Nat.ne_of_lt (blk_lt (g := gb116) (o := .cells #[.int .i64 t113, .int .i64 t114] 23 (0, 0)) (bk_ BK116.out)) : gb116 ≠ gb130)); have n17_ := A_ ((by rw [hg]; exact Nat.ne_of_gt (blk_lt (g := gb116) (o := .cells #[.int .i64 t113, .int .i64 t114] 23 (0, 0)) (bk_ BK116.out)) : gb130 ≠ gb116)); have n18_ := A_ ((by rw [hg]; exact Nat.ne_of_lt (blk_lt (g := gb120) (o := .cells #[.int .i64 t117, .int .i64 t118] 23 (0, 0)) (bk_ BK120.out)) : gb120 ≠ gb130)); have n19_ := A_ ((by rw [hg]; exact Nat.ne_of_gt (blk_lt (g := gb120) (o := .cells #[.int .i64 t117, .int .i64 t118] 23 (0, 0)) (bk_ BK120.out)) : gb130 ≠ gb120)); have n20_ := A_ ((by rw [hg]; exact Nat.ne_of_lt (blk_lt (g := gb126) (o := .cells #[.int .i64 t123, .int .i64 t124] 23 (0, 0)) (bk_ BK126.out)) : gb126 ≠ gb130)); have n21_ := A_ ((by rw [hg]; exact Nat.ne_of_gt (blk_lt (g := gb126) (o := .cells #[.int .i64 t123, .int .i64 t124] 23 (0, 0)) (bk_ BK126.out)) : gb130 ≠ gb126)); clear BK101; clear BK108; clear BK112; clear BK116; clear BK120; clear BK126; clear HB; have BK101 := n0_; have BK108 := n1_; have BK112 := n2_; have BK116 := n3_; have BK120 := n4_; have BK126 := n5_; have HB := n6_; have BK130 := n7_; have GW130 := n8_; have GE130 := n9_; have NB101_130 := n10_; have NB130_101 := n11_; have NB108_130 := n12_; have NB130_108 := n13_; have NB112_130 := n14_; have NB130_112 := n15_; have NB116_130 := n16_; have NB130_116 := n17_; have NB120_130 := n18_; have NB130_120 := n19_; have NB126_130 := n20_; have NB130_126 := n21_; clear n0_ n1_ n2_ n3_ n4_ n5_ n6_ n7_ n8_ n9_ n10_ n11_ n12_ n13_ n14_ n15_ n16_ n17_ n18_ n19_ n20_ n21_; clear hb hbox hg; have hnb126 := NB130_101.out; have hnc126 := NB101_130.out; have hnb127 := NB130_108.out; have hnc127 := NB108_130.out; have hnb128 := NB130_112.out; have hnc128 := NB112_130.out; have hnb129 := NB130_116.out; have hnc129 := NB116_130.out; have hnb130 := NB130_120.out; have hnc130 := NB120_130.out; have hnb131 := NB130_126.out; have hnc131 := NB126_130.out; have hcz132_0 : w125.cell? ⟨gb130, 0, none⟩ = some (.int .i64 0) := (blk_cell BK130.out 0).trans rfl; have hcz132_1 : w125.cell? ⟨gb130, 1, none⟩ = some (.int .i64 0) := (blk_cell BK130.out 1).trans rfl; have hfz132_0 := blk_frozen BK130.out 0; have hfz132_1 := blk_frozen BK130.out 1; have hcz133_0 : w125.cell? ⟨gb126, 0, none⟩ = some (.int .i64 t123) := (blk_cell BK126.out 0).trans rfl; have hcz133_1 : w125.cell? ⟨gb126, 1, none⟩ = some (.int .i64 t124) := (blk_cell BK126.out 1).trans rfl; have hfz133_0 := blk_frozen BK126.out 0; have hfz133_1 := blk_frozen BK126.out 1))
               go_ret
               exact ⟨by first | rfl | (simp [errW_none, errW_some] <;> rfl) | (simp only [← hji19, ← hji20, ← hji21, ← hji22]; first | rfl | (simp [errW_none, errW_some] <;> rfl)) | (simp [*, errW_none, errW_some] <;> rfl), by repeat (first | (with_reducible first | exact HB.out | apply below_alloc | apply pw_below_drewN | apply below_drew1 | refine below_set ?_ GE101.out | refine below_set ?_ GE108.out | refine below_set ?_ GE112.out | refine below_set ?_ GE116.out | refine below_set ?_ GE120.out | refine below_set ?_ GE126.out | refine below_set ?_ GE130.out) | exact HB.out)⟩
              ·
               rw [if_neg c109] at H
               exact absurd H (by simp)
             ·
              rw [if_neg c108] at H
              exact absurd H (by simp)
            ·
             replace c107 := Bool.eq_false_iff.mpr c107
             subst c107
             have H1 : (none) = some r := by rw [if_neg (show ¬ (false = true) by decide)] at H; exact H
             clear H
             have H := H1
             clear H1
             exact absurd H (by simp)

end Go.Proofs.YtfgclmbndgakgaaDoor.PD
