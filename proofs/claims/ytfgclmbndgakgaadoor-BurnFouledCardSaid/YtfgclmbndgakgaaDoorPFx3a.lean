/- Printed for this claim by this session's own driver over the kit's printer: the machine side of plain functions: what each returns, and that it leaves memory below its own blocks alone. -/
import Derived.Test.YtfgclmbndgakgaaDoorPFx0
import Derived.Test.YtfgclmbndgakgaaDoorPFx1
import Derived.Test.YtfgclmbndgakgaaDoorPFx2
namespace Go.Proofs.YtfgclmbndgakgaaDoor.PF
open Go.RowKit Go.Proofs.YtfgclmbndgakgaaDoorW.PrintWords Go.Proofs.YtfgclmbndgakgaaDoorW.PrintLast Go.Proofs.YtfgclmbndgakgaaDoor.PA Go.Proofs.YtfgclmbndgakgaaDoor.PC1 Go.Proofs.YtfgclmbndgakgaaDoor.PR Go.Proofs.YtfgclmbndgakgaaDoorW.PrintMore
attribute [local go_sem] max2_int min2_int max_two min_two max_three min_three max_four min_four   -- for this text's walks alone
set_option linter.unusedVariables false
set_option linter.unusedSimpArgs false

attribute [local go_sem high] eqA23
/-! ### cottonpadlaw04_BurnFouled: function 10 -/
mutual
def cottonpadlaw04_BurnFouled.j0 : Nat → List Int → Int → Int → Bool → Bool → Int → Int → List Int → Option (Bool)
 | 0, _, _, _, _, _, _, _, _ => none
 | k + 1, x2, x3, x4, x11, x41, x108000, x108001, x109000 => if x41 = true then (some x11) else (if 0 ≤ (x109000.length : Int) then (if ((x109000.length : Int) : Int).toNat ≤ 35184372088832 then (cottonpadlaw04_BurnFouled.l0 k x2 x3 x4 x11 (x109000.length : Int) (List.replicate ((x109000.length : Int) : Int).toNat 0) x108001 (wrap64 ((x109000.length : Int) - 1)) x108000 x108001 x109000) else (none)) else (none))
def cottonpadlaw04_BurnFouled.l0 : Nat → List Int → Int → Int → Bool → Int → List Int → Int → Int → Int → Int → List Int → Option (Bool)
 | 0, _, _, _, _, _, _, _, _, _, _, _ => none
 | k + 1, x2, x3, x4, x11, x12, x13, x14, x15, x108000, x108001, x109000 => if x15 ≥ 0 then (if 0 ≤ x15 then (if x15 < (x109000.length : Int) then (if x15 < (x13.length : Int) then (cottonpadlaw04_BurnFouled.l0 k x2 x3 x4 x11 x12 (x13.set (x15 : Int).toNat (mx x14 (rd x109000 x15))) (mx x14 (rd x109000 x15)) (wrap64 (x15 - 1)) x108000 x108001 x109000) else (none)) else (none)) else (none)) else (if (wrap64 (x12 + 1)) = 0 then (none) else (cottonpadlaw04_BurnFouled.l1 k x2 x11 x13 (mn (Int.tmod (wrap64 (x3)) (wrap64 (x12 + 1))) (Int.tmod (wrap64 (x4)) (wrap64 (x12 + 1)))) (mx (Int.tmod (wrap64 (x3)) (wrap64 (x12 + 1))) (Int.tmod (wrap64 (x4)) (wrap64 (x12 + 1)))) x108000 0 x12 0 x108000 x108001 x109000 0 0))
def cottonpadlaw04_BurnFouled.l1 : Nat → List Int → Bool → List Int → Int → Int → Int → Int → Int → Int → Int → Int → List Int → Int → Int → Option (Bool)
 | 0, _, _, _, _, _, _, _, _, _, _, _, _, _, _ => none
 | k + 1, x2, x11, x13, x17, x18, x19, x21, x85, x86, x108000, x108001, x109000, x118000, x118001 => if x86 < x85 then (if 0 ≤ x86 then (if x86 < (x13.length : Int) then ((cottonpadlaw04_span.f (rd x13 x86) x19).bind fun bt123 => ((cottonpadlaw04_choose.f x2 x86).bind fun t125 => ((cottonpadlaw04_pick.f bt123.1 bt123.2 t125).bind fun t126 => ((burn_Clean.f k x108000 x108001 x109000 x86).bind fun bt127 => ((burn_Dark.f k x108000 x108001 x109000 x86).bind fun bt131 => (if bt127.2.2 = 0 then (if bt131.2.2 = 0 then ((cottonpadlaw04_span.f (rd x13 x86) x108000).bind fun bt136 => (if (!(bt127.1 == bt136.1) || (!(bt127.2.1 == bt136.2))) = true then (none) else (if t126 < bt127.1 then (none) else (if t126 > bt127.2.1 then (none) else ((cottonpadlaw04_BurnFouled_1.f x86 (rd x13 x86) x109000).bind fun t139 => ((cottonpadlaw04_BurnFouled_1.f x86 x108000 x109000).bind fun t140 => ((cottonpadlaw04_span.f t139 t140).bind fun bt141 => (if (!(bt131.1 == bt141.1) || (!(bt131.2.1 == bt141.2))) = true then (none) else ((cottonpadlaw04_BurnFouled_1.f x86 t126 x109000).bind fun t143 => (if t143 < bt131.1 then (none) else ((cottonpadlaw04_BurnFouled_1.f x86 t126 x109000).bind fun t144 => (cottonpadlaw04_BurnFouled.j3 k x2 x11 x13 x17 x18 t126 x21 x86 x85 x86 (decide (t144 > bt131.2.1)) x108000 x108001 x109000 x118000 x118001 bt131.1 bt131.2.1)))))))))))) else (none)) else (none))))))) else (none)) else (none)) else ((burn_Smoke.f k x108000 x108001 x109000 x17 x18).bind fun bt118 => (if x11 = true then (if bt118.2.2 = 0 then (if (bt118.1 == x118000 && (bt118.2.1 == x118001)) = true then (if x21 ≥ bt118.1 then (some (decide (x21 ≤ bt118.2.1))) else (none)) else (none)) else (none)) else (none)))
def cottonpadlaw04_BurnFouled.j3 : Nat → List Int → Bool → List Int → Int → Int → Int → Int → Int → Int → Int → Bool → Int → Int → List Int → Int → Int → Int → Int → Option (Bool)
 | 0, _, _, _, _, _, _, _, _, _, _, _, _, _, _, _, _, _, _ => none
 | k + 1, x2, x11, x13, x17, x18, x19, x21, x22, x85, x86, x176, x108000, x108001, x109000, x118000, x118001, x135000, x135001 => if x176 = true then (none) else (if x22 ≥ x17 then (cottonpadlaw04_BurnFouled.j4 k x2 x11 x13 x17 x18 x19 x21 x22 x85 x86 (decide (x22 < x18)) x108000 x108001 x109000 x118000 x118001 x135000 x135001) else (cottonpadlaw04_BurnFouled.j4 k x2 x11 x13 x17 x18 x19 x21 x22 x85 x86 false x108000 x108001 x109000 x118000 x118001 x135000 x135001))
def cottonpadlaw04_BurnFouled.j4 : Nat → List Int → Bool → List Int → Int → Int → Int → Int → Int → Int → Int → Bool → Int → Int → List Int → Int → Int → Int → Int → Option (Bool)
 | 0, _, _, _, _, _, _, _, _, _, _, _, _, _, _, _, _, _, _ => none
 | k + 1, x2, x11, x13, x17, x18, x19, x21, x22, x85, x86, x184, x108000, x108001, x109000, x118000, x118001, x135000, x135001 => if x184 = true then ((cottonpadlaw04_span.f (wrap64 (x118000 + x135000)) (wrap64 (x118001 + x135001))).bind fun bt145 => ((cottonpadlaw04_BurnFouled_1.f x22 x19 x109000).bind fun t147 => (cottonpadlaw04_BurnFouled.l1 k x2 x11 x13 x17 x18 x19 (wrap64 (x21 + t147)) x85 (wrap64 (x86 + 1)) x108000 x108001 x109000 bt145.1 bt145.2))) else (cottonpadlaw04_BurnFouled.l1 k x2 x11 x13 x17 x18 x19 x21 x85 (wrap64 (x86 + 1)) x108000 x108001 x109000 x118000 x118001)
end
def cottonpadlaw04_BurnFouled.f (k : Nat) (a0_0 : Int) (a0_1 : Int) (l1 : List Int) (l2 : List Int) (a3 : Int) (a4 : Int) : Option (Bool) := (cottonpadlaw04_alive.f k).bind fun t109 => ((cottonpadref04_Great.f l1).bind fun t110 => (if t110 = true then (cottonpadlaw04_BurnFouled.j0 k l2 a3 a4 t109 true a0_0 a0_1 l1) else ((cottonpadref04_Lights.f k a0_0 a0_1 l1).bind fun t111 => (if t111 = 0 then (cottonpadlaw04_BurnFouled.j0 k l2 a3 a4 t109 (!t109) a0_0 a0_1 l1) else (cottonpadlaw04_BurnFouled.j0 k l2 a3 a4 t109 true a0_0 a0_1 l1)))))
theorem cottonpadlaw04_BurnFouled.mono_l : ∀ k, (∀ y0 y1 y2 y3 y4 y5 y6 y7, LeO (cottonpadlaw04_BurnFouled.j0 k y0 y1 y2 y3 y4 y5 y6 y7) (cottonpadlaw04_BurnFouled.j0 (k + 1) y0 y1 y2 y3 y4 y5 y6 y7)) ∧ (∀ y0 y1 y2 y3 y4 y5 y6 y7 y8 y9 y10, LeO (cottonpadlaw04_BurnFouled.l0 k y0 y1 y2 y3 y4 y5 y6 y7 y8 y9 y10) (cottonpadlaw04_BurnFouled.l0 (k + 1) y0 y1 y2 y3 y4 y5 y6 y7 y8 y9 y10)) ∧ (∀ y0 y1 y2 y3 y4 y5 y6 y7 y8 y9 y10 y11 y12 y13, LeO (cottonpadlaw04_BurnFouled.l1 k y0 y1 y2 y3 y4 y5 y6 y7 y8 y9 y10 y11 y12 y13) (cottonpadlaw04_BurnFouled.l1 (k + 1) y0 y1 y2 y3 y4 y5 y6 y7 y8 y9 y10 y11 y12 y13)) ∧ (∀ y0 y1 y2 y3 y4 y5 y6 y7 y8 y9 y10 y11 y12 y13 y14 y15 y16 y17, LeO (cottonpadlaw04_BurnFouled.j3 k y0 y1 y2 y3 y4 y5 y6 y7 y8 y9 y10 y11 y12 y13 y14 y15 y16 y17) (cottonpadlaw04_BurnFouled.j3 (k + 1) y0 y1 y2 y3 y4 y5 y6 y7 y8 y9 y10 y11 y12 y13 y14 y15 y16 y17)) ∧ (∀ y0 y1 y2 y3 y4 y5 y6 y7 y8 y9 y10 y11 y12 y13 y14 y15 y16 y17, LeO (cottonpadlaw04_BurnFouled.j4 k y0 y1 y2 y3 y4 y5 y6 y7 y8 y9 y10 y11 y12 y13 y14 y15 y16 y17) (cottonpadlaw04_BurnFouled.j4 (k + 1) y0 y1 y2 y3 y4 y5 y6 y7 y8 y9 y10 y11 y12 y13 y14 y15 y16 y17))
 | 0 => ⟨fun _ _ _ _ _ _ _ _ r h => by simp [cottonpadlaw04_BurnFouled.j0] at h, fun _ _ _ _ _ _ _ _ _ _ _ r h => by simp [cottonpadlaw04_BurnFouled.l0] at h, fun _ _ _ _ _ _ _ _ _ _ _ _ _ _ r h => by simp [cottonpadlaw04_BurnFouled.l1] at h, fun _ _ _ _ _ _ _ _ _ _ _ _ _ _ _ _ _ _ r h => by simp [cottonpadlaw04_BurnFouled.j3] at h, fun _ _ _ _ _ _ _ _ _ _ _ _ _ _ _ _ _ _ r h => by simp [cottonpadlaw04_BurnFouled.j4] at h⟩
 | k + 1 => by
  obtain ⟨ih0, ih1, ih2, ih3, ih4⟩ := cottonpadlaw04_BurnFouled.mono_l k
  refine ⟨?_, ?_, ?_, ?_, ?_⟩
  ·
   intro y0 y1 y2 y3 y4 y5 y6 y7
   unfold cottonpadlaw04_BurnFouled.j0
   repeat' first
   | (with_reducible exact ih0 _ _ _ _ _ _ _ _)
   | (with_reducible exact ih1 _ _ _ _ _ _ _ _ _ _ _)
   | (with_reducible exact ih2 _ _ _ _ _ _ _ _ _ _ _ _ _ _)
   | (with_reducible exact ih3 _ _ _ _ _ _ _ _ _ _ _ _ _ _ _ _ _ _)
   | (with_reducible exact ih4 _ _ _ _ _ _ _ _ _ _ _ _ _ _ _ _ _ _)
   | (with_reducible exact burn_Clean.mono _ _ _ _ _)
   | (with_reducible exact burn_Dark.mono _ _ _ _ _)
   | (with_reducible exact burn_Smoke.mono _ _ _ _ _ _)
   | (with_reducible exact cottonpadlaw04_alive.mono _)
   | (with_reducible exact cottonpadref04_Lights.mono _ _ _ _)
   | (with_reducible exact LeO.refl _)
   | (with_reducible exact LeO.none _)
   | (with_reducible refine LeO.ite ?_ ?_)
   | (with_reducible refine LeO.bind ?_ (fun _ => ?_))
   | exact ih0 _ _ _ _ _ _ _ _
   | exact ih1 _ _ _ _ _ _ _ _ _ _ _
   | exact ih2 _ _ _ _ _ _ _ _ _ _ _ _ _ _
   | exact ih3 _ _ _ _ _ _ _ _ _ _ _ _ _ _ _ _ _ _
   | exact ih4 _ _ _ _ _ _ _ _ _ _ _ _ _ _ _ _ _ _
   | exact burn_Clean.mono _ _ _ _ _
   | exact burn_Dark.mono _ _ _ _ _
   | exact burn_Smoke.mono _ _ _ _ _ _
   | exact cottonpadlaw04_alive.mono _
   | exact cottonpadref04_Lights.mono _ _ _ _
   | exact LeO.none _
   | refine LeO.ite ?_ ?_
   | refine LeO.bind ?_ (fun _ => ?_)
  ·
   intro y0 y1 y2 y3 y4 y5 y6 y7 y8 y9 y10
   unfold cottonpadlaw04_BurnFouled.l0
   repeat' first
   | (with_reducible exact ih0 _ _ _ _ _ _ _ _)
   | (with_reducible exact ih1 _ _ _ _ _ _ _ _ _ _ _)
   | (with_reducible exact ih2 _ _ _ _ _ _ _ _ _ _ _ _ _ _)
   | (with_reducible exact ih3 _ _ _ _ _ _ _ _ _ _ _ _ _ _ _ _ _ _)
   | (with_reducible exact ih4 _ _ _ _ _ _ _ _ _ _ _ _ _ _ _ _ _ _)
   | (with_reducible exact burn_Clean.mono _ _ _ _ _)
   | (with_reducible exact burn_Dark.mono _ _ _ _ _)
   | (with_reducible exact burn_Smoke.mono _ _ _ _ _ _)
   | (with_reducible exact cottonpadlaw04_alive.mono _)
   | (with_reducible exact cottonpadref04_Lights.mono _ _ _ _)
   | (with_reducible exact LeO.refl _)
   | (with_reducible exact LeO.none _)
   | (with_reducible refine LeO.ite ?_ ?_)
   | (with_reducible refine LeO.bind ?_ (fun _ => ?_))
   | exact ih0 _ _ _ _ _ _ _ _
   | exact ih1 _ _ _ _ _ _ _ _ _ _ _
   | exact ih2 _ _ _ _ _ _ _ _ _ _ _ _ _ _
   | exact ih3 _ _ _ _ _ _ _ _ _ _ _ _ _ _ _ _ _ _
   | exact ih4 _ _ _ _ _ _ _ _ _ _ _ _ _ _ _ _ _ _
   | exact burn_Clean.mono _ _ _ _ _
   | exact burn_Dark.mono _ _ _ _ _
   | exact burn_Smoke.mono _ _ _ _ _ _
   | exact cottonpadlaw04_alive.mono _
   | exact cottonpadref04_Lights.mono _ _ _ _
   | exact LeO.none _
   | refine LeO.ite ?_ ?_
   | refine LeO.bind ?_ (fun _ => ?_)
  ·
   intro y0 y1 y2 y3 y4 y5 y6 y7 y8 y9 y10 y11 y12 y13
   unfold cottonpadlaw04_BurnFouled.l1
   repeat' first
   | (with_reducible exact ih0 _ _ _ _ _ _ _ _)
   | (with_reducible exact ih1 _ _ _ _ _ _ _ _ _ _ _)
   | (with_reducible exact ih2 _ _ _ _ _ _ _ _ _ _ _ _ _ _)
   | (with_reducible exact ih3 _ _ _ _ _ _ _ _ _ _ _ _ _ _ _ _ _ _)
   | (with_reducible exact ih4 _ _ _ _ _ _ _ _ _ _ _ _ _ _ _ _ _ _)
   | (with_reducible exact burn_Clean.mono _ _ _ _ _)
   | (with_reducible exact burn_Dark.mono _ _ _ _ _)
   | (with_reducible exact burn_Smoke.mono _ _ _ _ _ _)
   | (with_reducible exact cottonpadlaw04_alive.mono _)
   | (with_reducible exact cottonpadref04_Lights.mono _ _ _ _)
   | (with_reducible exact LeO.refl _)
   | (with_reducible exact LeO.none _)
   | (with_reducible refine LeO.ite ?_ ?_)
   | (with_reducible refine LeO.bind ?_ (fun _ => ?_))
   | exact ih0 _ _ _ _ _ _ _ _
   | exact ih1 _ _ _ _ _ _ _ _ _ _ _
   | exact ih2 _ _ _ _ _ _ _ _ _ _ _ _ _ _
   | exact ih3 _ _ _ _ _ _ _ _ _ _ _ _ _ _ _ _ _ _
   | exact ih4 _ _ _ _ _ _ _ _ _ _ _ _ _ _ _ _ _ _
   | exact burn_Clean.mono _ _ _ _ _
   | exact burn_Dark.mono _ _ _ _ _
   | exact burn_Smoke.mono _ _ _ _ _ _
   | exact cottonpadlaw04_alive.mono _
   | exact cottonpadref04_Lights.mono _ _ _ _
   | exact LeO.none _
   | refine LeO.ite ?_ ?_
   | refine LeO.bind ?_ (fun _ => ?_)
  ·
   intro y0 y1 y2 y3 y4 y5 y6 y7 y8 y9 y10 y11 y12 y13 y14 y15 y16 y17
   unfold cottonpadlaw04_BurnFouled.j3
   repeat' first
   | (with_reducible exact ih0 _ _ _ _ _ _ _ _)
   | (with_reducible exact ih1 _ _ _ _ _ _ _ _ _ _ _)
   | (with_reducible exact ih2 _ _ _ _ _ _ _ _ _ _ _ _ _ _)
   | (with_reducible exact ih3 _ _ _ _ _ _ _ _ _ _ _ _ _ _ _ _ _ _)
   | (with_reducible exact ih4 _ _ _ _ _ _ _ _ _ _ _ _ _ _ _ _ _ _)
   | (with_reducible exact burn_Clean.mono _ _ _ _ _)
   | (with_reducible exact burn_Dark.mono _ _ _ _ _)
   | (with_reducible exact burn_Smoke.mono _ _ _ _ _ _)
   | (with_reducible exact cottonpadlaw04_alive.mono _)
   | (with_reducible exact cottonpadref04_Lights.mono _ _ _ _)
   | (with_reducible exact LeO.refl _)
   | (with_reducible exact LeO.none _)
   | (with_reducible refine LeO.ite ?_ ?_)
   | (with_reducible refine LeO.bind ?_ (fun _ => ?_))
   | exact ih0 _ _ _ _ _ _ _ _
   | exact ih1 _ _ _ _ _ _ _ _ _ _ _
   | exact ih2 _ _ _ _ _ _ _ _ _ _ _ _ _ _
   | exact ih3 _ _ _ _ _ _ _ _ _ _ _ _ _ _ _ _ _ _
   | exact ih4 _ _ _ _ _ _ _ _ _ _ _ _ _ _ _ _ _ _
   | exact burn_Clean.mono _ _ _ _ _
   | exact burn_Dark.mono _ _ _ _ _
   | exact burn_Smoke.mono _ _ _ _ _ _
   | exact cottonpadlaw04_alive.mono _
   | exact cottonpadref04_Lights.mono _ _ _ _
   | exact LeO.none _
   | refine LeO.ite ?_ ?_
   | refine LeO.bind ?_ (fun _ => ?_)
  ·
   intro y0 y1 y2 y3 y4 y5 y6 y7 y8 y9 y10 y11 y12 y13 y14 y15 y16 y17
   unfold cottonpadlaw04_BurnFouled.j4
   repeat' first
   | (with_reducible exact ih0 _ _ _ _ _ _ _ _)
   | (with_reducible exact ih1 _ _ _ _ _ _ _ _ _ _ _)
   | (with_reducible exact ih2 _ _ _ _ _ _ _ _ _ _ _ _ _ _)
   | (with_reducible exact ih3 _ _ _ _ _ _ _ _ _ _ _ _ _ _ _ _ _ _)
   | (with_reducible exact ih4 _ _ _ _ _ _ _ _ _ _ _ _ _ _ _ _ _ _)
   | (with_reducible exact burn_Clean.mono _ _ _ _ _)
   | (with_reducible exact burn_Dark.mono _ _ _ _ _)
   | (with_reducible exact burn_Smoke.mono _ _ _ _ _ _)
   | (with_reducible exact cottonpadlaw04_alive.mono _)
   | (with_reducible exact cottonpadref04_Lights.mono _ _ _ _)
   | (with_reducible exact LeO.refl _)
   | (with_reducible exact LeO.none _)
   | (with_reducible refine LeO.ite ?_ ?_)
   | (with_reducible refine LeO.bind ?_ (fun _ => ?_))
   | exact ih0 _ _ _ _ _ _ _ _
   | exact ih1 _ _ _ _ _ _ _ _ _ _ _
   | exact ih2 _ _ _ _ _ _ _ _ _ _ _ _ _ _
   | exact ih3 _ _ _ _ _ _ _ _ _ _ _ _ _ _ _ _ _ _
   | exact ih4 _ _ _ _ _ _ _ _ _ _ _ _ _ _ _ _ _ _
   | exact burn_Clean.mono _ _ _ _ _
   | exact burn_Dark.mono _ _ _ _ _
   | exact burn_Smoke.mono _ _ _ _ _ _
   | exact cottonpadlaw04_alive.mono _
   | exact cottonpadref04_Lights.mono _ _ _ _
   | exact LeO.none _
   | refine LeO.ite ?_ ?_
   | refine LeO.bind ?_ (fun _ => ?_)
theorem cottonpadlaw04_BurnFouled.mono : ∀ a0 a1 a2 a3 a4 a5 k, LeO (cottonpadlaw04_BurnFouled.f k a0 a1 a2 a3 a4 a5) (cottonpadlaw04_BurnFouled.f (k + 1) a0 a1 a2 a3 a4 a5) := by
 intro a0 a1 a2 a3 a4 a5 k
 obtain ⟨ih0, ih1, ih2, ih3, ih4⟩ := cottonpadlaw04_BurnFouled.mono_l k
 unfold cottonpadlaw04_BurnFouled.f
 repeat' first
   | (with_reducible exact ih0 _ _ _ _ _ _ _ _)
   | (with_reducible exact ih1 _ _ _ _ _ _ _ _ _ _ _)
   | (with_reducible exact ih2 _ _ _ _ _ _ _ _ _ _ _ _ _ _)
   | (with_reducible exact ih3 _ _ _ _ _ _ _ _ _ _ _ _ _ _ _ _ _ _)
   | (with_reducible exact ih4 _ _ _ _ _ _ _ _ _ _ _ _ _ _ _ _ _ _)
   | (with_reducible exact burn_Clean.mono _ _ _ _ _)
   | (with_reducible exact burn_Dark.mono _ _ _ _ _)
   | (with_reducible exact burn_Smoke.mono _ _ _ _ _ _)
   | (with_reducible exact cottonpadlaw04_alive.mono _)
   | (with_reducible exact cottonpadref04_Lights.mono _ _ _ _)
   | (with_reducible exact LeO.refl _)
   | (with_reducible exact LeO.none _)
   | (with_reducible refine LeO.ite ?_ ?_)
   | (with_reducible refine LeO.bind ?_ (fun _ => ?_))
   | exact ih0 _ _ _ _ _ _ _ _
   | exact ih1 _ _ _ _ _ _ _ _ _ _ _
   | exact ih2 _ _ _ _ _ _ _ _ _ _ _ _ _ _
   | exact ih3 _ _ _ _ _ _ _ _ _ _ _ _ _ _ _ _ _ _
   | exact ih4 _ _ _ _ _ _ _ _ _ _ _ _ _ _ _ _ _ _
   | exact burn_Clean.mono _ _ _ _ _
   | exact burn_Dark.mono _ _ _ _ _
   | exact burn_Smoke.mono _ _ _ _ _ _
   | exact cottonpadlaw04_alive.mono _
   | exact cottonpadref04_Lights.mono _ _ _ _
   | exact LeO.none _
   | refine LeO.ite ?_ ?_
   | refine LeO.bind ?_ (fun _ => ?_)
def cottonpadlaw04_BurnFouled.T13 : Bool × List (List Nat × List Nat) := (true, [([], []), ([0], [0]), ([], []), ([2], [2]), ([1, 3], [1, 3]), ([], []), ([5], [5]), ([], []), ([7], [7]), ([6, 8], [6, 8]), ([4, 0, 1, 2, 3, 4], [4]), ([9, 10, 0, 1, 2, 3, 4, 5, 6, 7, 8, 9, 10], [9])])
def cottonpadlaw04_BurnFouled.B13 : List Nat := [0, 1, 0, 4, 15, 0, 32, 0, 128, 480, 31, 2047]
theorem cottonpadlaw04_BurnFouled.tab13 : rtab .any (opsOf Tryd.f10 13) = cottonpadlaw04_BurnFouled.T13 := by kernel_rfl
theorem cottonpadlaw04_BurnFouled.bits13 : waitsOk cottonpadlaw04_BurnFouled.T13.2 cottonpadlaw04_BurnFouled.B13 = true := by kernel_rfl
def cottonpadlaw04_BurnFouled.T23 : Bool × List (List Nat × List Nat) := (true, [([], []), ([0], [0]), ([1], [1]), ([2], [2]), ([3, 2], [2, 3]), ([2, 4], [2, 4]), ([5, 2], [5]), ([6], [6]), ([6], [6]), ([6], [6]), ([8, 9, 6], [6, 8, 9]), ([10, 6], [6, 10]), ([6], [6]), ([12, 6], [6, 12]), ([11, 13, 6, 6], [6, 11, 13]), ([7, 14, 6], [6, 7, 14]), ([6, 15], [6, 15]), ([16, 14], [16]), ([17], [17]), ([17], [17]), ([19, 17], [17, 19]), ([18, 20, 17], [17, 18, 20]), ([17, 21], [17, 21]), ([22, 17], [22]), ([23], [23]), ([23], [23]), ([25, 23], [23, 25]), ([24, 26, 23], [23, 24, 26]), ([23, 27], [23, 27]), ([28, 23], [28]), ([29], [29]), ([29], [29]), ([29], [29]), ([29], [29]), ([29], [29]), ([33, 34, 29], [29, 33, 34]), ([35, 29], [29, 35]), ([31, 32, 36, 29, 29], [29, 31, 32, 36]), ([29], [29]), ([29], [29]), ([29], [29]), ([40, 29], [29, 40]), ([38, 39, 41, 37, 29], [29, 38, 39, 41]), ([37, 42, 42, 29], [29, 37, 42]), ([30, 43, 29], [29, 30, 43]), ([29, 44], [29, 44]), ([45, 43], [45]), ([46], [46]), ([46], [46]), ([46], [46]), ([47, 48, 49, 46, 46], [46, 47, 48, 49]), ([46], [46]), ([51, 46], [46, 51]), ([50, 52, 46], [46, 50, 52]), ([46, 53], [46, 53]), ([54, 50], [54]), ([55], [55]), ([55], [55]), ([55], [55]), ([56, 57, 58, 55, 55], [55, 56, 57, 58]), ([55], [55]), ([60, 55], [55, 60]), ([59, 61, 55], [55, 59, 61]), ([55, 62], [55, 62])])
def cottonpadlaw04_BurnFouled.B23 : List Nat := [0, 1, 3, 7, 15, 31, 63, 127, 127, 127, 895, 1919, 127, 4223, 16255, 32767, 65535, 131071, 262143, 262143, 786431, 2097151, 4194303, 8388607, 16777215, 16777215, 50331647, 134217727, 268435455, 536870911, 1073741823, 1073741823, 1073741823, 1073741823, 1073741823, 26843545599, 61203283967, 136365211647, 1073741823, 1073741823, 1073741823, 1100585369599, 4396972769279, 8795019280383, 17592186044415, 35184372088831, 70368744177663, 140737488355327, 140737488355327, 140737488355327, 1125899906842623, 140737488355327, 2392537302040575, 9007199254740991, 18014398509481983, 36028797018963967, 72057594037927935, 72057594037927935, 72057594037927935, 576460752303423487, 72057594037927935, 1224979098644774911, 4611686018427387903, 9223372036854775807]
theorem cottonpadlaw04_BurnFouled.tab23 : rtab .any (opsOf Tryd.f10 23) = cottonpadlaw04_BurnFouled.T23 := by kernel_rfl
theorem cottonpadlaw04_BurnFouled.bits23 : waitsOk cottonpadlaw04_BurnFouled.T23.2 cottonpadlaw04_BurnFouled.B23 = true := by kernel_rfl
end Go.Proofs.YtfgclmbndgakgaaDoor.PF
