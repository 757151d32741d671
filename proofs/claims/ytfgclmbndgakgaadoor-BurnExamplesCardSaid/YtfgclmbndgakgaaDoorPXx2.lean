/- Printed for this claim by this session's own driver over the kit's printer: the machine side of plain functions: what each returns, and that it leaves memory below its own blocks alone. -/
import Derived.Test.YtfgclmbndgakgaaDoorPXx0
namespace Go.Proofs.YtfgclmbndgakgaaDoor.PX
open Go.RowKit Go.Proofs.YtfgclmbndgakgaaDoorW.PrintWords Go.Proofs.YtfgclmbndgakgaaDoorW.PrintLast Go.Proofs.YtfgclmbndgakgaaDoor.PA Go.Proofs.YtfgclmbndgakgaaDoor.PC1 Go.Proofs.YtfgclmbndgakgaaDoor.PC2 Go.Proofs.YtfgclmbndgakgaaDoorW.PrintMore
attribute [local go_sem] max2_int min2_int max_two min_two max_three min_three max_four min_four   -- for this text's walks alone
set_option linter.unusedVariables false
set_option linter.unusedSimpArgs false

/-! ### cottonpadlaw04_BurnExamples: function 4 -/
def cottonpadlaw04_BurnExamples.j0 : Nat → Bool → Option (Bool)
 | 0, _ => none
 | k + 1, x39 => if x39 = true then (none) else ((cottonpadlaw04_hood.f).bind fun bt107 => ((cottonpadlaw04_lamp.f).bind fun bt116 => ((cottonpadlaw04_hood.f).bind fun bt120 => ((cottonpadlaw04_reads.f).bind fun t129 => ((burn_Heat.f k bt120.1 bt120.2.1 bt120.2.2.1 bt120.2.2.2.1 bt120.2.2.2.2.1 bt120.2.2.2.2.2.1 bt120.2.2.2.2.2.2.1 bt120.2.2.2.2.2.2.2.1 bt120.2.2.2.2.2.2.2.2 t129 3).bind fun bt132 => ((cottonpadlaw04_hood.f).bind fun bt136 => ((cottonpadlaw04_reads.f).bind fun t145 => ((burn_Sum.f k bt136.1 bt136.2.1 bt136.2.2.1 bt136.2.2.2.1 bt136.2.2.2.2.1 bt136.2.2.2.2.2.1 bt136.2.2.2.2.2.2.1 bt136.2.2.2.2.2.2.2.1 bt136.2.2.2.2.2.2.2.2 t145 2 1).bind fun bt148 => ((cottonpadlaw04_hood.f).bind fun bt152 => ((cottonpadlaw04_reads.f).bind fun t161 => ((burn_First.f k bt152.1 bt152.2.1 bt152.2.2.1 bt152.2.2.2.1 bt152.2.2.2.2.1 bt152.2.2.2.2.2.1 bt152.2.2.2.2.2.2.1 bt152.2.2.2.2.2.2.2.1 bt152.2.2.2.2.2.2.2.2 t161 0).bind fun bt164 => ((cottonpadlaw04_lamp.f).bind fun bt169 => ((cottonpadlaw04_lights.f).bind fun t171 => ((burn_Dark.f k bt169.1 bt169.2 t171 4).bind fun bt174 => ((cottonpadlaw04_lights.f).bind fun t178 => ((burn_Smoke.f k bt116.1 0 t178 0 1).bind fun bt181 => ((cottonpadlaw04_lamp.f).bind fun bt185 => ((burn_Clean.f k bt185.1 bt185.2 (([1001] : List Int)) 0).bind fun bt190 => (if bt132.2.2 = 2 then (if bt148.2.2 = 2 then (if bt164.2.2.2 = 2 then (if bt174.2.2 = 2 then (if bt181.2.2 = 42 then (if bt190.2.2 = 41 then ((cottonpadlaw04_reads.f).bind fun t194 => ((burn_Check.f k bt107.1 bt107.2.1 bt107.2.2.1 bt107.2.2.2.1 bt107.2.2.2.2.1 bt107.2.2.2.2.2.1 bt107.2.2.2.2.2.2.1 31 bt107.2.2.2.2.2.2.2.2 t194).bind fun t197 => (if t197 = 40 then ((cottonpadlaw04_hood.f).bind fun bt198 => ((burn_Check.f k bt198.1 bt198.2.1 bt198.2.2.1 bt198.2.2.2.1 bt198.2.2.2.2.1 bt198.2.2.2.2.2.1 bt198.2.2.2.2.2.2.1 bt198.2.2.2.2.2.2.2.1 bt198.2.2.2.2.2.2.2.2 (([(-1)] : List Int))).bind fun t210 => (some (t210 == 41)))) else (none)))) else (none)) else (none)) else (none)) else (none)) else (none)) else (none))))))))))))))))))))
def cottonpadlaw04_BurnExamples.f (k : Nat)  : Option (Bool) := (cottonpadlaw04_alive.f k).bind fun t101 => (if t101 = true then ((cottonpadlaw04_hot.f k 0 0 2970000).bind fun t102 => (if t102 = true then ((cottonpadlaw04_hot.f k 2 0 4950000).bind fun t103 => (if t103 = true then ((cottonpadlaw04_fouled.f k 0 900 0 100).bind fun t104 => (if t104 = true then ((cottonpadlaw04_fouled.f k 2 850 0 150).bind fun t105 => (if t105 = true then ((cottonpadlaw04_fouled.f k 3 800 500 600).bind fun t106 => (cottonpadlaw04_BurnExamples.j0 k (!t106))) else (none))) else (none))) else (none))) else (none))) else (none))
theorem cottonpadlaw04_BurnExamples.mono_l : ∀ k, (∀ y0, LeO (cottonpadlaw04_BurnExamples.j0 k y0) (cottonpadlaw04_BurnExamples.j0 (k + 1) y0))
 | 0 => fun _ r h => by simp [cottonpadlaw04_BurnExamples.j0] at h
 | k + 1 => by
  have ih0 := cottonpadlaw04_BurnExamples.mono_l k
  ·
   intro y0
   unfold cottonpadlaw04_BurnExamples.j0
   repeat' first
   | (with_reducible exact ih0 _)
   | (with_reducible exact burn_Check.mono _ _ _ _ _ _ _ _ _ _ _)
   | (with_reducible exact burn_Clean.mono _ _ _ _ _)
   | (with_reducible exact burn_Dark.mono _ _ _ _ _)
   | (with_reducible exact burn_First.mono _ _ _ _ _ _ _ _ _ _ _ _)
   | (with_reducible exact burn_Heat.mono _ _ _ _ _ _ _ _ _ _ _ _)
   | (with_reducible exact burn_Smoke.mono _ _ _ _ _ _)
   | (with_reducible exact burn_Sum.mono _ _ _ _ _ _ _ _ _ _ _ _ _)
   | (with_reducible exact cottonpadlaw04_alive.mono _)
   | (with_reducible exact cottonpadlaw04_fouled.mono _ _ _ _ _)
   | (with_reducible exact cottonpadlaw04_hot.mono _ _ _ _)
   | (with_reducible exact LeO.refl _)
   | (with_reducible exact LeO.none _)
   | (with_reducible refine LeO.ite ?_ ?_)
   | (with_reducible refine LeO.bind ?_ (fun _ => ?_))
   | exact ih0 _
   | exact burn_Check.mono _ _ _ _ _ _ _ _ _ _ _
   | exact burn_Clean.mono _ _ _ _ _
   | exact burn_Dark.mono _ _ _ _ _
   | exact burn_First.mono _ _ _ _ _ _ _ _ _ _ _ _
   | exact burn_Heat.mono _ _ _ _ _ _ _ _ _ _ _ _
   | exact burn_Smoke.mono _ _ _ _ _ _
   | exact burn_Sum.mono _ _ _ _ _ _ _ _ _ _ _ _ _
   | exact cottonpadlaw04_alive.mono _
   | exact cottonpadlaw04_fouled.mono _ _ _ _ _
   | exact cottonpadlaw04_hot.mono _ _ _ _
   | exact LeO.none _
   | refine LeO.ite ?_ ?_
   | refine LeO.bind ?_ (fun _ => ?_)
theorem cottonpadlaw04_BurnExamples.mono : ∀ k, LeO (cottonpadlaw04_BurnExamples.f k ) (cottonpadlaw04_BurnExamples.f (k + 1) ) := by
 intro  k
 have ih0 := cottonpadlaw04_BurnExamples.mono_l k
 unfold cottonpadlaw04_BurnExamples.f
 repeat' first
   | (with_reducible exact ih0 _)
   | (with_reducible exact burn_Check.mono _ _ _ _ _ _ _ _ _ _ _)
   | (with_reducible exact burn_Clean.mono _ _ _ _ _)
   | (with_reducible exact burn_Dark.mono _ _ _ _ _)
   | (with_reducible exact burn_First.mono _ _ _ _ _ _ _ _ _ _ _ _)
   | (with_reducible exact burn_Heat.mono _ _ _ _ _ _ _ _ _ _ _ _)
   | (with_reducible exact burn_Smoke.mono _ _ _ _ _ _)
   | (with_reducible exact burn_Sum.mono _ _ _ _ _ _ _ _ _ _ _ _ _)
   | (with_reducible exact cottonpadlaw04_alive.mono _)
   | (with_reducible exact cottonpadlaw04_fouled.mono _ _ _ _ _)
   | (with_reducible exact cottonpadlaw04_hot.mono _ _ _ _)
   | (with_reducible exact LeO.refl _)
   | (with_reducible exact LeO.none _)
   | (with_reducible refine LeO.ite ?_ ?_)
   | (with_reducible refine LeO.bind ?_ (fun _ => ?_))
   | exact ih0 _
   | exact burn_Check.mono _ _ _ _ _ _ _ _ _ _ _
   | exact burn_Clean.mono _ _ _ _ _
   | exact burn_Dark.mono _ _ _ _ _
   | exact burn_First.mono _ _ _ _ _ _ _ _ _ _ _ _
   | exact burn_Heat.mono _ _ _ _ _ _ _ _ _ _ _ _
   | exact burn_Smoke.mono _ _ _ _ _ _
   | exact burn_Sum.mono _ _ _ _ _ _ _ _ _ _ _ _ _
   | exact cottonpadlaw04_alive.mono _
   | exact cottonpadlaw04_fouled.mono _ _ _ _ _
   | exact cottonpadlaw04_hot.mono _ _ _ _
   | exact LeO.none _
   | refine LeO.ite ?_ ?_
   | refine LeO.bind ?_ (fun _ => ?_)
def cottonpadlaw04_BurnExamples.T10 : Bool × List (List Nat × List Nat) := (true, [([], []), ([], []), ([0, 1, 1], [0, 1]), ([2], [2]), ([3], [3]), ([3], [3]), ([], []), ([6, 4, 2, 0, 1, 2, 3, 4, 6], [4, 6]), ([5, 7, 0, 1, 2, 3, 4, 5, 6, 7], [5])])
def cottonpadlaw04_BurnExamples.B10 : List Nat := [0, 0, 3, 7, 15, 15, 0, 95, 255]
theorem cottonpadlaw04_BurnExamples.tab10 : rtab .any (opsOf Tryd.f4 10) = cottonpadlaw04_BurnExamples.T10 := by kernel_rfl
theorem cottonpadlaw04_BurnExamples.bits10 : waitsOk cottonpadlaw04_BurnExamples.T10.2 cottonpadlaw04_BurnExamples.B10 = true := by kernel_rfl
def cottonpadlaw04_BurnExamples.T12 : Bool × List (List Nat × List Nat) := (true, [([], []), ([0], [0]), ([1], [1]), ([2], [2]), ([3, 2], [2, 3]), ([2, 4], [2, 4]), ([5, 2], [5]), ([6], [6]), ([7, 6], [6, 7]), ([6, 8], [6, 8]), ([9, 6], [9]), ([10], [10]), ([11, 10], [10, 11]), ([10, 12], [10, 12]), ([13, 10], [13]), ([14], [14]), ([15, 14], [14, 15]), ([14, 16], [14, 16]), ([17, 14], [17]), ([18], [18]), ([19, 18], [18, 19]), ([18, 20], [18, 20]), ([21, 18], [21]), ([22], [22]), ([22, 22], [22]), ([23, 24, 24, 22], [22, 23, 24]), ([25, 22], [22, 25]), ([22, 26], [22, 26]), ([27, 25], [27]), ([28, 28], [28]), ([28], [28]), ([29, 30, 29, 28], [28, 29, 30]), ([31, 28], [28, 31]), ([28, 32], [28, 32]), ([33, 31, 0, 1, 2, 3, 4, 5, 6, 7, 8, 9, 10, 11, 12, 13, 14, 15, 16, 17, 18, 19, 20, 21, 22, 23, 24, 25, 26, 27, 28, 29, 30, 31, 32, 33], [33])])
def cottonpadlaw04_BurnExamples.B12 : List Nat := [0, 1, 3, 7, 15, 31, 63, 127, 255, 511, 1023, 2047, 4095, 8191, 16383, 32767, 65535, 131071, 262143, 524287, 1048575, 2097151, 4194303, 8388607, 8388607, 33554431, 67108863, 134217727, 268435455, 536870911, 536870911, 2147483647, 4294967295, 8589934591, 17179869183]
theorem cottonpadlaw04_BurnExamples.tab12 : rtab .any (opsOf Tryd.f4 12) = cottonpadlaw04_BurnExamples.T12 := by kernel_rfl
theorem cottonpadlaw04_BurnExamples.bits12 : waitsOk cottonpadlaw04_BurnExamples.T12.2 cottonpadlaw04_BurnExamples.B12 = true := by kernel_rfl
set_option maxHeartbeats 100000000 in
set_option maxRecDepth 100000 in
theorem cottonpadlaw04_BurnExamples.calls (k : Nat)  (r : Bool) (w : World) (hG : GlobOK w) (h : cottonpadlaw04_BurnExamples.f k  = some r) :
  Calls Tryd.prog 4 #[] w fun e w' => e = .returned (.bool r) ∧ Below w.heap.size w w' := by
 have hu25 := Tryd.underlying25
 have hu48 := Tryd.underlying48
 have hu23 := Tryd.underlying23
 have HG := A_ hG
 clear hG
 have HB := A_ (Below.refl w.heap.size w)
 have H : ((cottonpadlaw04_alive.f k).bind fun t101 => (if t101 = true then ((cottonpadlaw04_hot.f k 0 0 2970000).bind fun t102 => (if t102 = true then ((cottonpadlaw04_hot.f k 2 0 4950000).bind fun t103 => (if t103 = true then ((cottonpadlaw04_fouled.f k 0 900 0 100).bind fun t104 => (if t104 = true then ((cottonpadlaw04_fouled.f k 2 850 0 150).bind fun t105 => (if t105 = true then ((cottonpadlaw04_fouled.f k 3 800 500 600).bind fun t106 => (cottonpadlaw04_BurnExamples.j0 k (!t106))) else (none))) else (none))) else (none))) else (none))) else (none))) = some r := h
 clear h
 have HC1 := A_ H
 clear H
 go_enter Tryd.func4, Tryd.ntmps4
 go_upto_region 1 with (fail)
 go_cut [39] (fun v39 wc => ∃ (kq : Nat) (x39_0 : Bool), v39 = .bool x39_0 ∧ Aside0 (cottonpadlaw04_BurnExamples.j0 kq x39_0 = some r) ∧ Aside0 (kq ≤ k) ∧ Aside0 (Below w.heap.size w wc))
 case first =>
  have H := HC1.out
  clear HC1
  replace H := Option.bind_eq_some_iff.mp H
  obtain ⟨t101, A20, H⟩ := H
  try dsimp only at H
  have A2 := A_ A20
  clear A20
  by_cases c3 : t101 = true
  ·
   subst c3
   have H1 : ((cottonpadlaw04_hot.f k 0 0 2970000).bind fun t102 => (if t102 = true then ((cottonpadlaw04_hot.f k 2 0 4950000).bind fun t103 => (if t103 = true then ((cottonpadlaw04_fouled.f k 0 900 0 100).bind fun t104 => (if t104 = true then ((cottonpadlaw04_fouled.f k 2 850 0 150).bind fun t105 => (if t105 = true then ((cottonpadlaw04_fouled.f k 3 800 500 600).bind fun t106 => (cottonpadlaw04_BurnExamples.j0 k (!t106))) else (none))) else (none))) else (none))) else (none))) = some r := by rw [if_pos rfl] at H; exact H
   clear H
   have H := H1
   clear H1
   replace H := Option.bind_eq_some_iff.mp H
   obtain ⟨t102, A40, H⟩ := H
   try dsimp only at H
   have A4 := A_ A40
   clear A40
   by_cases c5 : t102 = true
   ·
    subst c5
    have H1 : ((cottonpadlaw04_hot.f k 2 0 4950000).bind fun t103 => (if t103 = true then ((cottonpadlaw04_fouled.f k 0 900 0 100).bind fun t104 => (if t104 = true then ((cottonpadlaw04_fouled.f k 2 850 0 150).bind fun t105 => (if t105 = true then ((cottonpadlaw04_fouled.f k 3 800 500 600).bind fun t106 => (cottonpadlaw04_BurnExamples.j0 k (!t106))) else (none))) else (none))) else (none))) = some r := by rw [if_pos rfl] at H; exact H
    clear H
    have H := H1
    clear H1
    replace H := Option.bind_eq_some_iff.mp H
    obtain ⟨t103, A60, H⟩ := H
    try dsimp only at H
    have A6 := A_ A60
    clear A60
    by_cases c7 : t103 = true
    ·
     subst c7
     have H1 : ((cottonpadlaw04_fouled.f k 0 900 0 100).bind fun t104 => (if t104 = true then ((cottonpadlaw04_fouled.f k 2 850 0 150).bind fun t105 => (if t105 = true then ((cottonpadlaw04_fouled.f k 3 800 500 600).bind fun t106 => (cottonpadlaw04_BurnExamples.j0 k (!t106))) else (none))) else (none))) = some r := by rw [if_pos rfl] at H; exact H
     clear H
     have H := H1
     clear H1
     replace H := Option.bind_eq_some_iff.mp H
     obtain ⟨t104, A80, H⟩ := H
     try dsimp only at H
     have A8 := A_ A80
     clear A80
     by_cases c9 : t104 = true
     ·
      subst c9
      have H1 : ((cottonpadlaw04_fouled.f k 2 850 0 150).bind fun t105 => (if t105 = true then ((cottonpadlaw04_fouled.f k 3 800 500 600).bind fun t106 => (cottonpadlaw04_BurnExamples.j0 k (!t106))) else (none))) = some r := by rw [if_pos rfl] at H; exact H
      clear H
      have H := H1
      clear H1
      replace H := Option.bind_eq_some_iff.mp H
      obtain ⟨t105, A100, H⟩ := H
      try dsimp only at H
      have A10 := A_ A100
      clear A100
      by_cases c11 : t105 = true
      ·
       subst c11
       have H1 : ((cottonpadlaw04_fouled.f k 3 800 500 600).bind fun t106 => (cottonpadlaw04_BurnExamples.j0 k (!t106))) = some r := by rw [if_pos rfl] at H; exact H
       clear H
       have H := H1
       clear H1
       replace H := Option.bind_eq_some_iff.mp H
       obtain ⟨t106, A120, H⟩ := H
       try dsimp only at H
       have A12 := A_ A120
       clear A120
       have H' := A_ H
       clear H
       go_wp2_with (first | (go_at_call 21; (with_reducible refine (cottonpadlaw04_alive.calls k  true _ ?side1 A2.out).mono ?_); (case side1 => exact GlobOK.below HG.out (by repeat (first | (with_reducible first | exact HB.out | apply below_alloc | apply pw_below_drewN | apply below_drew1) | exact HB.out))); rintro e w13 ⟨rfl, hb⟩; have n0_ := A_ (below_step (by repeat (first | (with_reducible first | exact HB.out | apply below_alloc | apply pw_below_drewN | apply below_drew1) | exact HB.out)) hb); clear HB; have HB := n0_; clear n0_; (try clear hb); (try clear hb2); (try clear hk); (try clear hi)) | (go_at_call 22; (with_reducible refine (cottonpadlaw04_hot.calls k 0 0 2970000 true _ ?side1 A4.out).mono ?_); (case side1 => exact GlobOK.below HG.out (by repeat (first | (with_reducible first | exact HB.out | apply below_alloc | apply pw_below_drewN | apply below_drew1) | exact HB.out))); rintro e w14 ⟨rfl, hb⟩; have n0_ := A_ (below_step (by repeat (first | (with_reducible first | exact HB.out | apply below_alloc | apply pw_below_drewN | apply below_drew1) | exact HB.out)) hb); clear HB; have HB := n0_; clear n0_; (try clear hb); (try clear hb2); (try clear hk); (try clear hi)) | (go_at_call 22; (with_reducible refine (cottonpadlaw04_hot.calls k 2 0 4950000 true _ ?side1 A6.out).mono ?_); (case side1 => exact GlobOK.below HG.out (by repeat (first | (with_reducible first | exact HB.out | apply below_alloc | apply pw_below_drewN | apply below_drew1) | exact HB.out))); rintro e w15 ⟨rfl, hb⟩; have n0_ := A_ (below_step (by repeat (first | (with_reducible first | exact HB.out | apply below_alloc | apply pw_below_drewN | apply below_drew1) | exact HB.out)) hb); clear HB; have HB := n0_; clear n0_; (try clear hb); (try clear hb2); (try clear hk); (try clear hi)) | (go_at_call 23; (with_reducible refine (cottonpadlaw04_fouled.calls k 0 900 0 100 true _ A8.out).mono ?_); rintro e w16 ⟨rfl, hb⟩; have n0_ := A_ (below_step (by repeat (first | (with_reducible first | exact HB.out | apply below_alloc | apply pw_below_drewN | apply below_drew1) | exact HB.out)) hb); clear HB; have HB := n0_; clear n0_; (try clear hb); (try clear hb2); (try clear hk); (try clear hi)) | (go_at_call 23; (with_reducible refine (cottonpadlaw04_fouled.calls k 2 850 0 150 true _ A10.out).mono ?_); rintro e w17 ⟨rfl, hb⟩; have n0_ := A_ (below_step (by repeat (first | (with_reducible first | exact HB.out | apply below_alloc | apply pw_below_drewN | apply below_drew1) | exact HB.out)) hb); clear HB; have HB := n0_; clear n0_; (try clear hb); (try clear hb2); (try clear hk); (try clear hi)) | (go_at_call 23; (with_reducible refine (cottonpadlaw04_fouled.calls k 3 800 500 600 t106 _ A12.out).mono ?_); rintro e w18 ⟨rfl, hb⟩; have n0_ := A_ (below_step (by repeat (first | (with_reducible first | exact HB.out | apply below_alloc | apply pw_below_drewN | apply below_drew1) | exact HB.out)) hb); clear HB; have HB := n0_; clear n0_; (try clear hb); (try clear hb2); (try clear hk); (try clear hi)))
       go_meet
       case rel => exact ⟨_, (!t106), (by first | rfl | (simp; done) | (simp [*]; done)), H', ⟨by first | omega | exact Nat.le_refl _⟩, ⟨by repeat (first | (with_reducible first | exact HB.out | apply below_alloc | apply pw_below_drewN | apply below_drew1) | exact HB.out)⟩⟩
      ·
       replace c11 := Bool.eq_false_iff.mpr c11
       subst c11
       have H1 : (none) = some r := by rw [if_neg (show ¬ (false = true) by decide)] at H; exact H
       clear H
       have H := H1
       clear H1
       exact absurd H (by simp)
     ·
      replace c9 := Bool.eq_false_iff.mpr c9
      subst c9
      have H1 : (none) = some r := by rw [if_neg (show ¬ (false = true) by decide)] at H; exact H
      clear H
      have H := H1
      clear H1
      exact absurd H (by simp)
    ·
     replace c7 := Bool.eq_false_iff.mpr c7
     subst c7
     have H1 : (none) = some r := by rw [if_neg (show ¬ (false = true) by decide)] at H; exact H
     clear H
     have H := H1
     clear H1
     exact absurd H (by simp)
   ·
    replace c5 := Bool.eq_false_iff.mpr c5
    subst c5
    have H1 : (none) = some r := by rw [if_neg (show ¬ (false = true) by decide)] at H; exact H
    clear H
    have H := H1
    clear H1
    exact absurd H (by simp)
  ·
   replace c3 := Bool.eq_false_iff.mpr c3
   subst c3
   have H1 : (none) = some r := by rw [if_neg (show ¬ (false = true) by decide)] at H; exact H
   clear H
   have H := H1
   clear H1
   exact absurd H (by simp)
 case rest =>
  clear HC1
  try clear c1
  try clear p2
  try clear c3
  try clear c4
  try clear c5
  try clear c7
  try clear c9
  try clear c11
  obtain ⟨kq, x39_0, rfl, HA, HJ0, HB⟩ := hcut
  cases kq with
  | zero => exact absurd HA.out (by simp [cottonpadlaw04_BurnExamples.j0])
  | succ kj0 =>
   have H := HA.out
   clear HA
   simp only [cottonpadlaw04_BurnExamples.j0] at H
   by_cases c19 : x39_0 = true
   ·
    subst c19
    have H1 : (none) = some r := by rw [if_pos rfl] at H; exact H
    clear H
    have H := H1
    clear H1
    exact absurd H (by simp)
   ·
    replace c19 := Bool.eq_false_iff.mpr c19
    subst c19
    have H1 : ((cottonpadlaw04_hood.f).bind fun bt107 => ((cottonpadlaw04_lamp.f).bind fun bt116 => ((cottonpadlaw04_hood.f).bind fun bt120 => ((cottonpadlaw04_reads.f).bind fun t129 => ((burn_Heat.f kj0 bt120.1 bt120.2.1 bt120.2.2.1 bt120.2.2.2.1 bt120.2.2.2.2.1 bt120.2.2.2.2.2.1 bt120.2.2.2.2.2.2.1 bt120.2.2.2.2.2.2.2.1 bt120.2.2.2.2.2.2.2.2 t129 3).bind fun bt132 => ((cottonpadlaw04_hood.f).bind fun bt136 => ((cottonpadlaw04_reads.f).bind fun t145 => ((burn_Sum.f kj0 bt136.1 bt136.2.1 bt136.2.2.1 bt136.2.2.2.1 bt136.2.2.2.2.1 bt136.2.2.2.2.2.1 bt136.2.2.2.2.2.2.1 bt136.2.2.2.2.2.2.2.1 bt136.2.2.2.2.2.2.2.2 t145 2 1).bind fun bt148 => ((cottonpadlaw04_hood.f).bind fun bt152 => ((cottonpadlaw04_reads.f).bind fun t161 => ((burn_First.f kj0 bt152.1 bt152.2.1 bt152.2.2.1 bt152.2.2.2.1 bt152.2.2.2.2.1 bt152.2.2.2.2.2.1 bt152.2.2.2.2.2.2.1 bt152.2.2.2.2.2.2.2.1 bt152.2.2.2.2.2.2.2.2 t161 0).bind fun bt164 => ((cottonpadlaw04_lamp.f).bind fun bt169 => ((cottonpadlaw04_lights.f).bind fun t171 => ((burn_Dark.f kj0 bt169.1 bt169.2 t171 4).bind fun bt174 => ((cottonpadlaw04_lights.f).bind fun t178 => ((burn_Smoke.f kj0 bt116.1 0 t178 0 1).bind fun bt181 => ((cottonpadlaw04_lamp.f).bind fun bt185 => ((burn_Clean.f kj0 bt185.1 bt185.2 (([1001] : List Int)) 0).bind fun bt190 => (if bt132.2.2 = 2 then (if bt148.2.2 = 2 then (if bt164.2.2.2 = 2 then (if bt174.2.2 = 2 then (if bt181.2.2 = 42 then (if bt190.2.2 = 41 then ((cottonpadlaw04_reads.f).bind fun t194 => ((burn_Check.f kj0 bt107.1 bt107.2.1 bt107.2.2.1 bt107.2.2.2.1 bt107.2.2.2.2.1 bt107.2.2.2.2.2.1 bt107.2.2.2.2.2.2.1 31 bt107.2.2.2.2.2.2.2.2 t194).bind fun t197 => (if t197 = 40 then ((cottonpadlaw04_hood.f).bind fun bt198 => ((burn_Check.f kj0 bt198.1 bt198.2.1 bt198.2.2.1 bt198.2.2.2.1 bt198.2.2.2.2.1 bt198.2.2.2.2.2.1 bt198.2.2.2.2.2.2.1 bt198.2.2.2.2.2.2.2.1 bt198.2.2.2.2.2.2.2.2 (([(-1)] : List Int))).bind fun t210 => (some (t210 == 41)))) else (none)))) else (none)) else (none)) else (none)) else (none)) else (none)) else (none)))))))))))))))))))) = some r := by rw [if_neg (show ¬ (false = true) by decide)] at H; exact H
    clear H
    have H := H1
    clear H1
    replace H := Option.bind_eq_some_iff.mp H
    obtain ⟨⟨t107, t108, t109, t110, t111, t112, t113, t114, t115⟩, A200, H⟩ := H
    try dsimp only at H
    have A20 := A_ A200
    clear A200
    replace H := Option.bind_eq_some_iff.mp H
    obtain ⟨⟨t116, t117⟩, A210, H⟩ := H
    try dsimp only at H
    have A21 := A_ A210
    clear A210
    replace H := Option.bind_eq_some_iff.mp H
    obtain ⟨⟨t120, t121, t122, t123, t124, t125, t126, t127, t128⟩, A220, H⟩ := H
    try dsimp only at H
    have A22 := A_ A220
    clear A220
    replace H := Option.bind_eq_some_iff.mp H
    obtain ⟨t129, A230, H⟩ := H
    try dsimp only at H
    have A23 := A_ A230
    clear A230
    replace H := Option.bind_eq_some_iff.mp H
    obtain ⟨⟨t132, t133, t134⟩, A240, H⟩ := H
    try dsimp only at H
    have A24 := A_ A240
    clear A240
    replace H := Option.bind_eq_some_iff.mp H
    obtain ⟨⟨t136, t137, t138, t139, t140, t141, t142, t143, t144⟩, A250, H⟩ := H
    try dsimp only at H
    have A25 := A_ A250
    clear A250
    replace H := Option.bind_eq_some_iff.mp H
    obtain ⟨t145, A260, H⟩ := H
    try dsimp only at H
    have A26 := A_ A260
    clear A260
    replace H := Option.bind_eq_some_iff.mp H
    obtain ⟨⟨t148, t149, t150⟩, A270, H⟩ := H
    try dsimp only at H
    have A27 := A_ A270
    clear A270
    replace H := Option.bind_eq_some_iff.mp H
    obtain ⟨⟨t152, t153, t154, t155, t156, t157, t158, t159, t160⟩, A280, H⟩ := H
    try dsimp only at H
    have A28 := A_ A280
    clear A280
    replace H := Option.bind_eq_some_iff.mp H
    obtain ⟨t161, A290, H⟩ := H
    try dsimp only at H
    have A29 := A_ A290
    clear A290
    replace H := Option.bind_eq_some_iff.mp H
    obtain ⟨⟨t164, t165, t166, t167⟩, A300, H⟩ := H
    try dsimp only at H
    have A30 := A_ A300
    clear A300
    replace H := Option.bind_eq_some_iff.mp H
    obtain ⟨⟨t169, t170⟩, A310, H⟩ := H
    try dsimp only at H
    have A31 := A_ A310
    clear A310
    replace H := Option.bind_eq_some_iff.mp H
    obtain ⟨t171, A320, H⟩ := H
    try dsimp only at H
    have A32 := A_ A320
    clear A320
    replace H := Option.bind_eq_some_iff.mp H
    obtain ⟨⟨t174, t175, t176⟩, A330, H⟩ := H
    try dsimp only at H
    have A33 := A_ A330
    clear A330
    replace H := Option.bind_eq_some_iff.mp H
    obtain ⟨t178, A340, H⟩ := H
    try dsimp only at H
    have A34 := A_ A340
    clear A340
    replace H := Option.bind_eq_some_iff.mp H
    obtain ⟨⟨t181, t182, t183⟩, A350, H⟩ := H
    try dsimp only at H
    have A35 := A_ A350
    clear A350
    replace H := Option.bind_eq_some_iff.mp H
    obtain ⟨⟨t185, t186⟩, A360, H⟩ := H
    try dsimp only at H
    have A36 := A_ A360
    clear A360
    obtain ⟨y187, hy187⟩ : ∃ y_ : List Int, y_ = (([1001] : List Int)) := ⟨_, rfl⟩
    replace H : ((burn_Clean.f kj0 t185 t186 y187 0).bind fun bt190 => (if t134 = 2 then (if t150 = 2 then (if t167 = 2 then (if t176 = 2 then (if t183 = 42 then (if bt190.2.2 = 41 then ((cottonpadlaw04_reads.f).bind fun t194 => ((burn_Check.f kj0 t107 t108 t109 t110 t111 t112 t113 31 t115 t194).bind fun t197 => (if t197 = 40 then ((cottonpadlaw04_hood.f).bind fun bt198 => ((burn_Check.f kj0 bt198.1 bt198.2.1 bt198.2.2.1 bt198.2.2.2.1 bt198.2.2.2.2.1 bt198.2.2.2.2.2.1 bt198.2.2.2.2.2.2.1 bt198.2.2.2.2.2.2.2.1 bt198.2.2.2.2.2.2.2.2 (([(-1)] : List Int))).bind fun t210 => (some (t210 == 41)))) else (none)))) else (none)) else (none)) else (none)) else (none)) else (none)) else (none))) = some r := by first | (rw [hy187]; with_reducible exact H) | (have H2_ := (Option.bind_some _ _).symm.trans H; rw [hy187]; with_reducible exact H2_) | (have H2_ := (Option.bind_some _ _).symm.trans H; with_reducible exact H2_) | with_reducible exact H | (rw [hy187]; exact H) | exact H
    have Ny187 := A_ hy187
    clear hy187
    replace H := Option.bind_eq_some_iff.mp H
    obtain ⟨⟨t190, t191, t192⟩, A370, H⟩ := H
    try dsimp only at H
    have A37 := A_ A370
    clear A370
    by_cases c38 : t134 = 2
    ·
     rw [if_pos c38] at H
     have c38b0 : (t134 == 2) = true := beq_iff_eq.mpr c38
     have c38b1 : (t134 != 2) = false := bne_eq_false_iff_eq.mpr c38
     clear c38
     by_cases c39 : t150 = 2
     ·
      rw [if_pos c39] at H
      have c39b0 : (t150 == 2) = true := beq_iff_eq.mpr c39
      have c39b1 : (t150 != 2) = false := bne_eq_false_iff_eq.mpr c39
      clear c39
      by_cases c40 : t167 = 2
      ·
       rw [if_pos c40] at H
       have c40b0 : (t167 == 2) = true := beq_iff_eq.mpr c40
       have c40b1 : (t167 != 2) = false := bne_eq_false_iff_eq.mpr c40
       clear c40
       by_cases c41 : t176 = 2
       ·
        rw [if_pos c41] at H
        have c41b0 : (t176 == 2) = true := beq_iff_eq.mpr c41
        have c41b1 : (t176 != 2) = false := bne_eq_false_iff_eq.mpr c41
        clear c41
        by_cases c42 : t183 = 42
        ·
         rw [if_pos c42] at H
         have c42b0 : (t183 == 42) = true := beq_iff_eq.mpr c42
         have c42b1 : (t183 != 42) = false := bne_eq_false_iff_eq.mpr c42
         clear c42
         by_cases c43 : t192 = 41
         ·
          rw [if_pos c43] at H
          have c43b0 : (t192 == 41) = true := beq_iff_eq.mpr c43
          have c43b1 : (t192 != 41) = false := bne_eq_false_iff_eq.mpr c43
          clear c43
          replace H := Option.bind_eq_some_iff.mp H
          obtain ⟨t194, A440, H⟩ := H
          try dsimp only at H
          have A44 := A_ A440
          clear A440
          replace H := Option.bind_eq_some_iff.mp H
          obtain ⟨t197, A450, H⟩ := H
          try dsimp only at H
          have A45 := A_ A450
          clear A450
          by_cases c46 : t197 = 40
          ·
           rw [if_pos c46] at H
           have c46b0 : (t197 == 40) = true := beq_iff_eq.mpr c46
           have c46b1 : (t197 != 40) = false := bne_eq_false_iff_eq.mpr c46
           clear c46
           replace H := Option.bind_eq_some_iff.mp H
           obtain ⟨⟨t198, t199, t200, t201, t202, t203, t204, t205, t206⟩, A470, H⟩ := H
           try dsimp only at H
           have A47 := A_ A470
           clear A470
           obtain ⟨y207, hy207⟩ : ∃ y_ : List Int, y_ = (([(-1)] : List Int)) := ⟨_, rfl⟩
           replace H : ((burn_Check.f kj0 t198 t199 t200 t201 t202 t203 t204 t205 t206 y207).bind fun t210 => (some (t210 == 41))) = some r := by first | (rw [hy207]; with_reducible exact H) | (have H2_ := (Option.bind_some _ _).symm.trans H; rw [hy207]; with_reducible exact H2_) | (have H2_ := (Option.bind_some _ _).symm.trans H; with_reducible exact H2_) | with_reducible exact H | (rw [hy207]; exact H) | exact H
           have Ny207 := A_ hy207
           clear hy207
           replace H := Option.bind_eq_some_iff.mp H
           obtain ⟨t210, A480, H⟩ := H
           try dsimp only at H
           have A48 := A_ A480
           clear A480
           obtain rfl := Option.some.inj H
           try go_wp2_with (first | ((with_reducible refine gate_callee (f := 24) rfl ?_); refine goesL_ (some 40) rfl rfl Tryd.func24 (by kernel_rfl) rfl #[] rfl (by (try simp only [List.map_toArray, List.map_cons, List.map_nil]); first | done | rfl | (simp only [List.length_drop, List.length_take]; rfl)) ?_; (with_reducible refine (cottonpadlaw04_hood.calls  t107 t108 t109 t110 t111 t112 t113 t114 t115 _ A20.out).mono ?_); rintro e w49 ⟨rfl, hb⟩; refine ⟨_, rfl, ?_⟩; have n0_ := A_ (below_step (by repeat (first | (with_reducible first | exact HB.out | apply below_alloc | apply pw_below_drewN | apply below_drew1) | exact HB.out)) hb); clear HB; have HB := n0_; clear n0_; (try clear hb); (try clear hb2); (try clear hk); (try clear hi)) | ((with_reducible refine gate_callee (f := 25) rfl ?_); refine goesL_ (some 41) rfl rfl Tryd.func25 (by kernel_rfl) rfl #[] rfl (by (try simp only [List.map_toArray, List.map_cons, List.map_nil]); first | done | rfl | (simp only [List.length_drop, List.length_take]; rfl)) ?_; (with_reducible refine (cottonpadlaw04_lamp.calls  t116 t117 _ A21.out).mono ?_); rintro e w50 ⟨rfl, hb⟩; refine ⟨_, rfl, ?_⟩; have n0_ := A_ (below_step (by repeat (first | (with_reducible first | exact HB.out | apply below_alloc | apply pw_below_drewN | apply below_drew1) | exact HB.out)) hb); clear HB; have HB := n0_; clear n0_; (try clear hb); (try clear hb2); (try clear hk); (try clear hi)) | ((with_reducible refine gate_dst (N := 1) rfl ?_); (try (refine gate_guard (by rfl) ?_; dsimp only)); refine box_event ?hg (N := 1) ?hd (cs := #[.int .i64 0, .int .i64 0, .int .i64 0, .int .i64 0, .int .i64 0, .int .i64 0, .int .i64 0, .int .i64 0, .int .i64 0]) (t := 25) ?hr ?_; (case hd => rfl); (case hg => rfl); (case hr => first | (go_simp; done) | (go_simp; rfl)); intro gb118 hg w51 hbox hb; have n0_ := A_ (below_step (by repeat (first | (with_reducible first | exact HB.out | apply below_alloc | apply pw_below_drewN | apply below_drew1) | exact HB.out)) hb); have n1_ := A_ (hbox); have n2_ := A_ ((by rw [hg]; exact (below_size (by repeat (first | (with_reducible first | exact HB.out | apply below_alloc | apply pw_below_drewN | apply below_drew1) | exact HB.out))) : w.heap.size ≤ gb118)); have n3_ := A_ ((by rw [hg]; exact (below_size (by repeat (first | (with_reducible first | exact HB.out | apply below_alloc | apply pw_below_drewN | apply below_drew1) | exact HB.out))) : w.heap.size ≤ gb118)); clear HB; have HB := n0_; have BK118 := n1_; have GW118 := n2_; have GE118 := n3_; clear n0_ n1_ n2_ n3_; clear hb hbox hg) | ((with_reducible refine gate_dst (N := 2) rfl ?_); (try (refine gate_guard (by rfl) ?_; dsimp only)); refine box_event ?hg (N := 2) ?hd (cs := #[.int .i64 0, .int .i64 0]) (t := 48) ?hr ?_; (case hd => rfl); (case hg => rfl); (case hr => first | (go_simp; done) | (go_simp; rfl)); intro gb119 hg w52 hbox hb; have n0_ := bb_ BK118.out hb; have n1_ := A_ (below_step (by repeat (first | (with_reducible first | exact HB.out | apply below_alloc | apply pw_below_drewN | apply below_drew1 | refine below_set ?_ GE118.out) | exact HB.out)) hb); have n2_ := A_ (hbox); have n3_ := A_ ((by rw [hg]; exact (below_size (by repeat (first | (with_reducible first | exact HB.out | apply below_alloc | apply pw_below_drewN | apply below_drew1 | refine below_set ?_ GE118.out) | exact HB.out))) : w.heap.size ≤ gb119)); have n4_ := A_ ((by rw [hg]; exact (below_size (by repeat (first | (with_reducible first | exact HB.out | apply below_alloc | apply pw_below_drewN | apply below_drew1 | refine below_set ?_ GE118.out) | exact HB.out))) : w.heap.size ≤ gb119)); have n5_ := A_ ((by rw [hg]; exact Nat.ne_of_lt (blk_lt (g := gb118) (o := .cells #[.int .i64 0, .int .i64 0, .int .i64 0, .int .i64 0, .int .i64 0, .int .i64 0, .int .i64 0, .int .i64 0, .int .i64 0] 25 (0, 0)) (bk_ BK118.out)) : gb118 ≠ gb119)); have n6_ := A_ ((by rw [hg]; exact Nat.ne_of_gt (blk_lt (g := gb118) (o := .cells #[.int .i64 0, .int .i64 0, .int .i64 0, .int .i64 0, .int .i64 0, .int .i64 0, .int .i64 0, .int .i64 0, .int .i64 0] 25 (0, 0)) (bk_ BK118.out)) : gb119 ≠ gb118)); clear BK118; clear HB; have BK118 := n0_; have HB := n1_; have BK119 := n2_; have GW119 := n3_; have GE119 := n4_; have NB118_119 := n5_; have NB119_118 := n6_; clear n0_ n1_ n2_ n3_ n4_ n5_ n6_; clear hb hbox hg; have hnb53 := NB118_119.out; have hnc53 := NB119_118.out; have hcz54_0 : w52.cell? ⟨gb118, 0, none⟩ = some (.int .i64 0) := (blk_cell BK118.out 0).trans rfl; have hcz54_1 : w52.cell? ⟨gb118, 1, none⟩ = some (.int .i64 0) := (blk_cell BK118.out 1).trans rfl; have hcz54_2 : w52.cell? ⟨gb118, 2, none⟩ = some (.int .i64 0) := (blk_cell BK118.out 2).trans rfl; have hcz54_3 : w52.cell? ⟨gb118, 3, none⟩ = some (.int .i64 0) := (blk_cell BK118.out 3).trans rfl; have hcz54_4 : w52.cell? ⟨gb118, 4, none⟩ = some (.int .i64 0) := (blk_cell BK118.out 4).trans rfl; have hcz54_5 : w52.cell? ⟨gb118, 5, none⟩ = some (.int .i64 0) := (blk_cell BK118.out 5).trans rfl; have hcz54_6 : w52.cell? ⟨gb118, 6, none⟩ = some (.int .i64 0) := (blk_cell BK118.out 6).trans rfl; have hcz54_7 : w52.cell? ⟨gb118, 7, none⟩ = some (.int .i64 0) := (blk_cell BK118.out 7).trans rfl; have hcz54_8 : w52.cell? ⟨gb118, 8, none⟩ = some (.int .i64 0) := (blk_cell BK118.out 8).trans rfl; have hfz54_0 := blk_frozen BK118.out 0; have hfz54_1 := blk_frozen BK118.out 1; have hfz54_2 := blk_frozen BK118.out 2; have hfz54_3 := blk_frozen BK118.out 3; have hfz54_4 := blk_frozen BK118.out 4; have hfz54_5 := blk_frozen BK118.out 5; have hfz54_6 := blk_frozen BK118.out 6; have hfz54_7 := blk_frozen BK118.out 7; have hfz54_8 := blk_frozen BK118.out 8; have hcz55_0 : w52.cell? ⟨gb119, 0, none⟩ = some (.int .i64 0) := (blk_cell BK119.out 0).trans rfl; have hcz55_1 : w52.cell? ⟨gb119, 1, none⟩ = some (.int .i64 0) := (blk_cell BK119.out 1).trans rfl; have hfz55_0 := blk_frozen BK119.out 0; have hfz55_1 := blk_frozen BK119.out 1) | ((with_reducible refine gate_callee (f := 24) rfl ?_); refine goesL_ (some 46) rfl rfl Tryd.func24 (by kernel_rfl) rfl #[] rfl (by (try simp only [List.map_toArray, List.map_cons, List.map_nil]); first | done | rfl | (simp only [List.length_drop, List.length_take]; rfl)) ?_; (with_reducible refine (cottonpadlaw04_hood.calls  t120 t121 t122 t123 t124 t125 t126 t127 t128 _ A22.out).mono ?_); rintro e w56 ⟨rfl, hb⟩; refine ⟨_, rfl, ?_⟩; have n0_ := A_ (blk_below (g := gb118) (o := .cells #[.int .i64 t107, .int .i64 t108, .int .i64 t109, .int .i64 t110, .int .i64 t111, .int .i64 t112, .int .i64 t113, .int .i64 31, .int .i64 t115] 25 (0, 0)) (by (with_reducible repeat (first | refine blk_drewN ?_ _ | refine blk_drew ?_ | refine blk_alloc ?_ _)); refine blk_far ?_ NB118_119.out _; (with_reducible repeat (first | refine blk_drewN ?_ _ | refine blk_drew ?_ | refine blk_alloc ?_ _)); refine blk_put (cs := #[.int .i64 t107, .int .i64 t108, .int .i64 t109, .int .i64 t110, .int .i64 t111, .int .i64 t112, .int .i64 t113, .int .i64 t114, .int .i64 t115]) ?_ 7 _ rfl; (with_reducible repeat (first | refine blk_drewN ?_ _ | refine blk_drew ?_ | refine blk_alloc ?_ _)); refine blk_far ?_ NB118_119.out _; (with_reducible repeat (first | refine blk_drewN ?_ _ | refine blk_drew ?_ | refine blk_alloc ?_ _)); refine blk_far ?_ NB118_119.out _; (with_reducible repeat (first | refine blk_drewN ?_ _ | refine blk_drew ?_ | refine blk_alloc ?_ _)); refine blk_put (cs := #[.int .i64 t107, .int .i64 t108, .int .i64 t109, .int .i64 t110, .int .i64 t111, .int .i64 t112, .int .i64 t113, .int .i64 t114, .int .i64 0]) ?_ 8 _ rfl; (with_reducible repeat (first | refine blk_drewN ?_ _ | refine blk_drew ?_ | refine blk_alloc ?_ _)); refine blk_put (cs := #[.int .i64 t107, .int .i64 t108, .int .i64 t109, .int .i64 t110, .int .i64 t111, .int .i64 t112, .int .i64 t113, .int .i64 0, .int .i64 0]) ?_ 7 _ rfl; (with_reducible repeat (first | refine blk_drewN ?_ _ | refine blk_drew ?_ | refine blk_alloc ?_ _)); refine blk_put (cs := #[.int .i64 t107, .int .i64 t108, .int .i64 t109, .int .i64 t110, .int .i64 t111, .int .i64 t112, .int .i64 0, .int .i64 0, .int .i64 0]) ?_ 6 _ rfl; (with_reducible repeat (first | refine blk_drewN ?_ _ | refine blk_drew ?_ | refine blk_alloc ?_ _)); refine blk_put (cs := #[.int .i64 t107, .int .i64 t108, .int .i64 t109, .int .i64 t110, .int .i64 t111, .int .i64 0, .int .i64 0, .int .i64 0, .int .i64 0]) ?_ 5 _ rfl; (with_reducible repeat (first | refine blk_drewN ?_ _ | refine blk_drew ?_ | refine blk_alloc ?_ _)); refine blk_put (cs := #[.int .i64 t107, .int .i64 t108, .int .i64 t109, .int .i64 t110, .int .i64 0, .int .i64 0, .int .i64 0, .int .i64 0, .int .i64 0]) ?_ 4 _ rfl; (with_reducible repeat (first | refine blk_drewN ?_ _ | refine blk_drew ?_ | refine blk_alloc ?_ _)); refine blk_put (cs := #[.int .i64 t107, .int .i64 t108, .int .i64 t109, .int .i64 0, .int .i64 0, .int .i64 0, .int .i64 0, .int .i64 0, .int .i64 0]) ?_ 3 _ rfl; (with_reducible repeat (first | refine blk_drewN ?_ _ | refine blk_drew ?_ | refine blk_alloc ?_ _)); refine blk_put (cs := #[.int .i64 t107, .int .i64 t108, .int .i64 0, .int .i64 0, .int .i64 0, .int .i64 0, .int .i64 0, .int .i64 0, .int .i64 0]) ?_ 2 _ rfl; (with_reducible repeat (first | refine blk_drewN ?_ _ | refine blk_drew ?_ | refine blk_alloc ?_ _)); refine blk_put (cs := #[.int .i64 t107, .int .i64 0, .int .i64 0, .int .i64 0, .int .i64 0, .int .i64 0, .int .i64 0, .int .i64 0, .int .i64 0]) ?_ 1 _ rfl; (with_reducible repeat (first | refine blk_drewN ?_ _ | refine blk_drew ?_ | refine blk_alloc ?_ _)); refine blk_put (cs := #[.int .i64 0, .int .i64 0, .int .i64 0, .int .i64 0, .int .i64 0, .int .i64 0, .int .i64 0, .int .i64 0, .int .i64 0]) ?_ 0 _ rfl; (with_reducible repeat (first | refine blk_drewN ?_ _ | refine blk_drew ?_ | refine blk_alloc ?_ _)); exact BK118.out) hb); have n1_ := A_ (blk_below (g := gb119) (o := .cells #[.int .i64 t116, .int .i64 0] 48 (0, 0)) (by (with_reducible repeat (first | refine blk_drewN ?_ _ | refine blk_drew ?_ | refine blk_alloc ?_ _)); refine blk_put (cs := #[.int .i64 t116, .int .i64 t117]) ?_ 1 _ rfl; (with_reducible repeat (first | refine blk_drewN ?_ _ | refine blk_drew ?_ | refine blk_alloc ?_ _)); refine blk_far ?_ NB119_118.out _; (with_reducible repeat (first | refine blk_drewN ?_ _ | refine blk_drew ?_ | refine blk_alloc ?_ _)); refine blk_put (cs := #[.int .i64 t116, .int .i64 0]) ?_ 1 _ rfl; (with_reducible repeat (first | refine blk_drewN ?_ _ | refine blk_drew ?_ | refine blk_alloc ?_ _)); refine blk_put (cs := #[.int .i64 0, .int .i64 0]) ?_ 0 _ rfl; (with_reducible repeat (first | refine blk_drewN ?_ _ | refine blk_drew ?_ | refine blk_alloc ?_ _)); refine blk_far ?_ NB119_118.out _; (with_reducible repeat (first | refine blk_drewN ?_ _ | refine blk_drew ?_ | refine blk_alloc ?_ _)); refine blk_far ?_ NB119_118.out _; (with_reducible repeat (first | refine blk_drewN ?_ _ | refine blk_drew ?_ | refine blk_alloc ?_ _)); refine blk_far ?_ NB119_118.out _; (with_reducible repeat (first | refine blk_drewN ?_ _ | refine blk_drew ?_ | refine blk_alloc ?_ _)); refine blk_far ?_ NB119_118.out _; (with_reducible repeat (first | refine blk_drewN ?_ _ | refine blk_drew ?_ | refine blk_alloc ?_ _)); refine blk_far ?_ NB119_118.out _; (with_reducible repeat (first | refine blk_drewN ?_ _ | refine blk_drew ?_ | refine blk_alloc ?_ _)); refine blk_far ?_ NB119_118.out _; (with_reducible repeat (first | refine blk_drewN ?_ _ | refine blk_drew ?_ | refine blk_alloc ?_ _)); refine blk_far ?_ NB119_118.out _; (with_reducible repeat (first | refine blk_drewN ?_ _ | refine blk_drew ?_ | refine blk_alloc ?_ _)); refine blk_far ?_ NB119_118.out _; (with_reducible repeat (first | refine blk_drewN ?_ _ | refine blk_drew ?_ | refine blk_alloc ?_ _)); refine blk_far ?_ NB119_118.out _; (with_reducible repeat (first | refine blk_drewN ?_ _ | refine blk_drew ?_ | refine blk_alloc ?_ _)); exact BK119.out) hb); have n2_ := A_ (below_step (by repeat (first | (with_reducible first | exact HB.out | apply below_alloc | apply pw_below_drewN | apply below_drew1 | refine below_set ?_ GE118.out | refine below_set ?_ GE119.out) | exact HB.out)) hb); clear BK118; clear BK119; clear HB; have BK118 := n0_; have BK119 := n1_; have HB := n2_; clear n0_ n1_ n2_; (try clear hb); (try clear hb2); (try clear hk); (try clear hi)) | ((with_reducible refine gate_callee (f := 26) rfl ?_); refine goesL_ (some 47) rfl rfl Tryd.func26 (by kernel_rfl) rfl #[] rfl (by (try simp only [List.map_toArray, List.map_cons, List.map_nil]); first | done | rfl | (simp only [List.length_drop, List.length_take]; rfl)) ?_; (with_reducible refine (cottonpadlaw04_reads.calls  t129 _ A23.out).mono ?_); rintro e w57 ⟨v130, rfl, ho0, hb⟩; refine ⟨_, rfl, ?_⟩; have n0_ := A_ (Kd.R_lower ho0 (below_size (by repeat (first | (with_reducible first | exact HB.out | apply below_alloc | apply pw_below_drewN | apply below_drew1 | refine below_set ?_ GE118.out | refine below_set ?_ GE119.out) | exact HB.out)))); have n1_ := bb_ BK118.out hb; have n2_ := bb_ BK119.out hb; have n3_ := A_ (below_step (by repeat (first | (with_reducible first | exact HB.out | apply below_alloc | apply pw_below_drewN | apply below_drew1 | refine below_set ?_ GE118.out | refine below_set ?_ GE119.out) | exact HB.out)) hb); clear BK118; clear BK119; clear HB; have HO131 := n0_; have BK118 := n1_; have BK119 := n2_; have HB := n3_; clear n0_ n1_ n2_ n3_; (try clear hb); (try clear hb2); (try clear hk); (try clear hi); (try clear ho0); obtain ⟨Ao58, co58, eo58⟩ := Kd.R_slice HO131.out; subst eo58) | ((with_reducible refine gate_callee (f := 12) rfl ?_); refine goesL_ (some 48) rfl rfl Tryd.func12 (by kernel_rfl) rfl #[.agg #[.int .i64 t120, .int .i64 t121, .int .i64 t122, .int .i64 t123, .int .i64 t124, .int .i64 t125, .int .i64 t126, .int .i64 t127, .int .i64 t128], .slice Ao58 t129.length co58, .int .i64 3] rfl (by (try simp only [List.map_toArray, List.map_cons, List.map_nil]); first | done | rfl | (simp only [List.length_drop, List.length_take]; rfl)) ?_; (with_reducible refine (burn_Heat.calls kj0 t120 t121 t122 t123 t124 t125 t126 t127 t128 _ _ t129 3 t132 t133 t134 _ ?side1 ?side2 ?side3 A24.out).mono ?_); (case side1 => repeat (first | exact (Kd.R_reads' HO131.out).2.2 | (with_reducible refine Kd.C_alloc ?_ _) | (with_reducible refine Kd.C_drewN ?_ _) | (with_reducible refine Kd.C_drew ?_))); (case side2 => exact (Kd.R_reads' HO131.out).2.1); (case side3 => exact GlobOK.below HG.out (by repeat (first | (with_reducible first | exact HB.out | apply below_alloc | apply pw_below_drewN | apply below_drew1 | refine below_set ?_ GE118.out | refine below_set ?_ GE119.out) | exact HB.out))); rintro e w59 ⟨rfl, hb⟩; refine ⟨_, rfl, ?_⟩; have n0_ := A_ (Kd.R_below (kr_ HO131.out) hb); have n1_ := bb_ BK118.out hb; have n2_ := bb_ BK119.out hb; have n3_ := A_ (below_step (by repeat (first | (with_reducible first | exact HB.out | apply below_alloc | apply pw_below_drewN | apply below_drew1 | refine below_set ?_ GE118.out | refine below_set ?_ GE119.out) | exact HB.out)) hb); clear HO131; clear BK118; clear BK119; clear HB; have HO131 := n0_; have BK118 := n1_; have BK119 := n2_; have HB := n3_; clear n0_ n1_ n2_ n3_; (try clear hb); (try clear hb2); (try clear hk); (try clear hi)) | ((with_reducible refine gate_dst (N := 3) rfl ?_); (try (refine gate_guard (by rfl) ?_; dsimp only)); refine box_event ?hg (N := 3) ?hd (cs := #[.int .i64 0, .int .i64 0]) (t := 23) ?hr ?_; (case hd => rfl); (case hg => rfl); (case hr => first | (go_simp; done) | (go_simp; rfl)); intro gb135 hg w60 hbox hb; have n0_ := A_ (Kd.R_below (kr_ HO131.out) hb); have n1_ := bb_ BK118.out hb; have n2_ := bb_ BK119.out hb; have n3_ := A_ (below_step (by repeat (first | (with_reducible first | exact HB.out | apply below_alloc | apply pw_below_drewN | apply below_drew1 | refine below_set ?_ GE118.out | refine below_set ?_ GE119.out) | exact HB.out)) hb); have n4_ := A_ (hbox); have n5_ := A_ ((by rw [hg]; exact (below_size (by repeat (first | (with_reducible first | exact HB.out | apply below_alloc | apply pw_below_drewN | apply below_drew1 | refine below_set ?_ GE118.out | refine below_set ?_ GE119.out) | exact HB.out))) : w.heap.size ≤ gb135)); have n6_ := A_ ((by rw [hg]; exact (below_size (by repeat (first | (with_reducible first | exact HB.out | apply below_alloc | apply pw_below_drewN | apply below_drew1 | refine below_set ?_ GE118.out | refine below_set ?_ GE119.out) | exact HB.out))) : w.heap.size ≤ gb135)); have n7_ := A_ ((by rw [hg]; exact Nat.ne_of_lt (blk_lt (g := gb118) (o := .cells #[.int .i64 t107, .int .i64 t108, .int .i64 t109, .int .i64 t110, .int .i64 t111, .int .i64 t112, .int .i64 t113, .int .i64 31, .int .i64 t115] 25 (0, 0)) (bk_ BK118.out)) : gb118 ≠ gb135)); have n8_ := A_ ((by rw [hg]; exact Nat.ne_of_gt (blk_lt (g := gb118) (o := .cells #[.int .i64 t107, .int .i64 t108, .int .i64 t109, .int .i64 t110, .int .i64 t111, .int .i64 t112, .int .i64 t113, .int .i64 31, .int .i64 t115] 25 (0, 0)) (bk_ BK118.out)) : gb135 ≠ gb118)); have n9_ := A_ ((by rw [hg]; exact Nat.ne_of_lt (blk_lt (g := gb119) (o := .cells #[.int .i64 t116, .int .i64 0] 48 (0, 0)) (bk_ BK119.out)) : gb119 ≠ gb135)); have n10_ := A_ ((by rw [hg]; exact Nat.ne_of_gt (blk_lt (g := gb119) (o := .cells #[.int .i64 t116, .int .i64 0] 48 (0, 0)) (bk_ BK119.out)) : gb135 ≠ gb119)); clear HO131; clear BK118; clear BK119; clear HB; have HO131 := n0_; have BK118 := n1_; have BK119 := n2_; have HB := n3_; have BK135 := n4_; have GW135 := n5_; have GE135 := n6_; have NB118_135 := n7_; have NB135_118 := n8_; have NB119_135 := n9_; have NB135_119 := n10_; clear n0_ n1_ n2_ n3_ n4_ n5_ n6_ n7_ n8_ n9_ n10_; clear hb hbox hg; have hnb61 := NB135_118.out; have hnc61 := NB118_135.out; have hnb62 := NB135_119.out; have hnc62 := NB119_135.out; have hcz63_0 : w60.cell? ⟨gb135, 0, none⟩ = some (.int .i64 0) := (blk_cell BK135.out 0).trans rfl; have hcz63_1 : w60.cell? ⟨gb135, 1, none⟩ = some (.int .i64 0) := (blk_cell BK135.out 1).trans rfl; have hfz63_0 := blk_frozen BK135.out 0; have hfz63_1 := blk_frozen BK135.out 1) | ((with_reducible refine gate_callee (f := 24) rfl ?_); refine goesL_ (some 52) rfl rfl Tryd.func24 (by kernel_rfl) rfl #[] rfl (by (try simp only [List.map_toArray, List.map_cons, List.map_nil]); first | done | rfl | (simp only [List.length_drop, List.length_take]; rfl)) ?_; (with_reducible refine (cottonpadlaw04_hood.calls  t136 t137 t138 t139 t140 t141 t142 t143 t144 _ A25.out).mono ?_); rintro e w64 ⟨rfl, hb⟩; refine ⟨_, rfl, ?_⟩; have n0_ := A_ (Kd.R_below (by (with_reducible repeat (first | apply Kd.R_alloc | apply Kd.R_drewN | apply Kd.R_drew)); exact (Kd.R_mono (Kd.R_far (p := ⟨gb135, 1, none⟩) (Kd.R_far (p := ⟨gb135, 0, none⟩) (Kd.R_types HO131.out BK135.out (by decide)) (fun _ hk => hk.2) (.int .i64 t132)) (fun _ hk => hk.2) (.int .i64 t133)) (fun _ h_ => h_.1))) hb); have n1_ := A_ (blk_below (g := gb118) (o := .cells #[.int .i64 t107, .int .i64 t108, .int .i64 t109, .int .i64 t110, .int .i64 t111, .int .i64 t112, .int .i64 t113, .int .i64 31, .int .i64 t115] 25 (0, 0)) (by (with_reducible repeat (first | refine blk_drewN ?_ _ | refine blk_drew ?_ | refine blk_alloc ?_ _)); refine blk_far ?_ NB118_135.out _; (with_reducible repeat (first | refine blk_drewN ?_ _ | refine blk_drew ?_ | refine blk_alloc ?_ _)); refine blk_far ?_ NB118_135.out _; (with_reducible repeat (first | refine blk_drewN ?_ _ | refine blk_drew ?_ | refine blk_alloc ?_ _)); exact BK118.out) hb); have n2_ := A_ (blk_below (g := gb119) (o := .cells #[.int .i64 t116, .int .i64 0] 48 (0, 0)) (by (with_reducible repeat (first | refine blk_drewN ?_ _ | refine blk_drew ?_ | refine blk_alloc ?_ _)); refine blk_far ?_ NB119_135.out _; (with_reducible repeat (first | refine blk_drewN ?_ _ | refine blk_drew ?_ | refine blk_alloc ?_ _)); refine blk_far ?_ NB119_135.out _; (with_reducible repeat (first | refine blk_drewN ?_ _ | refine blk_drew ?_ | refine blk_alloc ?_ _)); exact BK119.out) hb); have n3_ := A_ (blk_below (g := gb135) (o := .cells #[.int .i64 t132, .int .i64 t133] 23 (0, 0)) (by (with_reducible repeat (first | refine blk_drewN ?_ _ | refine blk_drew ?_ | refine blk_alloc ?_ _)); refine blk_put (cs := #[.int .i64 t132, .int .i64 0]) ?_ 1 _ rfl; (with_reducible repeat (first | refine blk_drewN ?_ _ | refine blk_drew ?_ | refine blk_alloc ?_ _)); refine blk_put (cs := #[.int .i64 0, .int .i64 0]) ?_ 0 _ rfl; (with_reducible repeat (first | refine blk_drewN ?_ _ | refine blk_drew ?_ | refine blk_alloc ?_ _)); exact BK135.out) hb); have n4_ := A_ (below_step (by repeat (first | (with_reducible first | exact HB.out | apply below_alloc | apply pw_below_drewN | apply below_drew1 | refine below_set ?_ GE118.out | refine below_set ?_ GE119.out | refine below_set ?_ GE135.out) | exact HB.out)) hb); clear HO131; clear BK118; clear BK119; clear BK135; clear HB; have HO131 := n0_; have BK118 := n1_; have BK119 := n2_; have BK135 := n3_; have HB := n4_; clear n0_ n1_ n2_ n3_ n4_; (try clear hb); (try clear hb2); (try clear hk); (try clear hi)) | ((with_reducible refine gate_callee (f := 26) rfl ?_); refine goesL_ (some 53) rfl rfl Tryd.func26 (by kernel_rfl) rfl #[] rfl (by (try simp only [List.map_toArray, List.map_cons, List.map_nil]); first | done | rfl | (simp only [List.length_drop, List.length_take]; rfl)) ?_; (with_reducible refine (cottonpadlaw04_reads.calls  t145 _ A26.out).mono ?_); rintro e w65 ⟨v146, rfl, ho0, hb⟩; refine ⟨_, rfl, ?_⟩; have n0_ := A_ (Kd.R_elder' (kr_ HO131.out) (Kd.R_base ho0) hb); have n1_ := A_ (Kd.R_lower (Kd.R_new' ho0 (Kd.R_lt (kr_ HO131.out))) (below_size (by repeat (first | (with_reducible first | exact HB.out | apply below_alloc | apply pw_below_drewN | apply below_drew1 | refine below_set ?_ GE118.out | refine below_set ?_ GE119.out | refine below_set ?_ GE135.out) | exact HB.out)))); have n2_ := bb_ BK118.out hb; have n3_ := bb_ BK119.out hb; have n4_ := bb_ BK135.out hb; have n5_ := A_ (below_step (by repeat (first | (with_reducible first | exact HB.out | apply below_alloc | apply pw_below_drewN | apply below_drew1 | refine below_set ?_ GE118.out | refine below_set ?_ GE119.out | refine below_set ?_ GE135.out) | exact HB.out)) hb); clear HO131; clear BK118; clear BK119; clear BK135; clear HB; have HO131 := n0_; have HO147 := n1_; have BK118 := n2_; have BK119 := n3_; have BK135 := n4_; have HB := n5_; clear n0_ n1_ n2_ n3_ n4_ n5_; (try clear hb); (try clear hb2); (try clear hk); (try clear hi); (try clear ho0); obtain ⟨Ao66, co66, eo66⟩ := Kd.R_slice HO147.out; subst eo66) | ((with_reducible refine gate_callee (f := 14) rfl ?_); refine goesL_ (some 54) rfl rfl Tryd.func14 (by kernel_rfl) rfl #[.agg #[.int .i64 t136, .int .i64 t137, .int .i64 t138, .int .i64 t139, .int .i64 t140, .int .i64 t141, .int .i64 t142, .int .i64 t143, .int .i64 t144], .slice Ao66 t145.length co66, .int .i64 2, .int .i64 1] rfl (by (try simp only [List.map_toArray, List.map_cons, List.map_nil]); first | done | rfl | (simp only [List.length_drop, List.length_take]; rfl)) ?_; (with_reducible refine (burn_Sum.calls kj0 t136 t137 t138 t139 t140 t141 t142 t143 t144 _ _ t145 2 1 t148 t149 t150 _ ?side1 ?side2 ?side3 A27.out).mono ?_); (case side1 => repeat (first | exact (Kd.R_reads' HO147.out).2.2 | (with_reducible refine Kd.C_alloc ?_ _) | (with_reducible refine Kd.C_drewN ?_ _) | (with_reducible refine Kd.C_drew ?_))); (case side2 => exact (Kd.R_reads' HO147.out).2.1); (case side3 => exact GlobOK.below HG.out (by repeat (first | (with_reducible first | exact HB.out | apply below_alloc | apply pw_below_drewN | apply below_drew1 | refine below_set ?_ GE118.out | refine below_set ?_ GE119.out | refine below_set ?_ GE135.out) | exact HB.out))); rintro e w67 ⟨rfl, hb⟩; refine ⟨_, rfl, ?_⟩; have n0_ := A_ (Kd.R_below (kr_ HO131.out) hb); have n1_ := A_ (Kd.R_below (kr_ HO147.out) hb); have n2_ := bb_ BK118.out hb; have n3_ := bb_ BK119.out hb; have n4_ := bb_ BK135.out hb; have n5_ := A_ (below_step (by repeat (first | (with_reducible first | exact HB.out | apply below_alloc | apply pw_below_drewN | apply below_drew1 | refine below_set ?_ GE118.out | refine below_set ?_ GE119.out | refine below_set ?_ GE135.out) | exact HB.out)) hb); clear HO131; clear HO147; clear BK118; clear BK119; clear BK135; clear HB; have HO131 := n0_; have HO147 := n1_; have BK118 := n2_; have BK119 := n3_; have BK135 := n4_; have HB := n5_; clear n0_ n1_ n2_ n3_ n4_ n5_; (try clear hb); (try clear hb2); (try clear hk); (try clear hi)) | ((with_reducible refine gate_dst (N := 5) rfl ?_); (try (refine gate_guard (by rfl) ?_; dsimp only)); refine box_event ?hg (N := 5) ?hd (cs := #[.int .i64 0, .int .i64 0]) (t := 23) ?hr ?_; (case hd => rfl); (case hg => rfl); (case hr => first | (go_simp; done) | (go_simp; rfl)); intro gb151 hg w68 hbox hb; have n0_ := A_ (Kd.R_below (kr_ HO131.out) hb); have n1_ := A_ (Kd.R_below (kr_ HO147.out) hb); have n2_ := bb_ BK118.out hb; have n3_ := bb_ BK119.out hb; have n4_ := bb_ BK135.out hb; have n5_ := A_ (below_step (by repeat (first | (with_reducible first | exact HB.out | apply below_alloc | apply pw_below_drewN | apply below_drew1 | refine below_set ?_ GE118.out | refine below_set ?_ GE119.out | refine below_set ?_ GE135.out) | exact HB.out)) hb); have n6_ := A_ (hbox); have n7_ := A_ ((by rw [hg]; exact (below_size (by repeat (first | (with_reducible first | exact HB.out | apply below_alloc | apply pw_below_drewN | apply below_drew1 | refine below_set ?_ GE118.out | refine below_set ?_ GE119.out | refine below_set ?_ GE135.out) | exact HB.out))) : w.heap.size ≤ gb151)); have n8_ := A_ ((by rw [hg]; exact (below_size (by repeat (first | (with_reducible first | exact HB.out | apply below_alloc | apply pw_below_drewN | apply below_drew1 | refine below_set ?_ GE118.out | refine below_set ?_ GE119.out | refine below_set ?_ GE135.out) | exact HB.out))) : w.heap.size ≤ gb151)); have n9_ := A_ ((by rw [hg]; exact Nat.ne_of_lt (blk_lt (g := gb118) (o := .cells #[.int .i64 t107, .int .i64 t108, .int .i64 t109, .int .i64 t110, .int .i64 t111, .int .i64 t112, .int .i64 t113, .int .i64 31, .int .i64 t115] 25 (0, 0)) (bk_ BK118.out)) : gb118 ≠ gb151)); have n10_ := A_ ((by rw [hg]; exact Nat.ne_of_gt (blk_lt (g := gb118) (o := .cells #[.int .i64 t107, .int .i64 t108, .int .i64 t109, .int .i64 t110, .int .i64 t111, .int .i64 t112, .int .i64 t113, .int .i64 31, .int .i64 t115] 25 (0, 0)) (bk_ BK118.out)) : gb151 ≠ gb118)); have n11_ := A_ ((by rw [hg]; exact Nat.ne_of_lt (blk_lt (g := gb119) (o := .cells #[.int .i64 t116, .int .i64 0] 48 (0, 0)) (bk_ BK119.out)) : gb119 ≠ gb151)); have n12_ := A_ ((by rw [hg]; exact Nat.ne_of_gt (blk_lt (g := gb119) (o := .cells #[.int .i64 t116, .int .i64 0] 48 (0, 0)) (bk_ BK119.out)) : gb151 ≠ gb119)); have n13_ := A_ ((by rw [hg]; exact Nat.ne_of_lt (blk_lt (g := gb135) (o := .cells #[.int .i64 t132, .int .i64 t133] 23 (0, 0)) (bk_ BK135.out)) : gb135 ≠ gb151)); have n14_ := A_ ((by rw [hg]; exact Nat.ne_of_gt (blk_lt (g := gb135) (o := .cells #[.int .i64 t132, .int .i64 t133] 23 (0, 0)) (bk_ BK135.out)) : gb151 ≠ gb135)); clear HO131; clear HO147; clear BK118; clear BK119; clear BK135; clear HB; have HO131 := n0_; have HO147 := n1_; have BK118 := n2_; have BK119 := n3_; have BK135 := n4_; have HB := n5_; have BK151 := n6_; have GW151 := n7_; have GE151 := n8_; have NB118_151 := n9_; have NB151_118 := n10_; have NB119_151 := n11_; have NB151_119 := n12_; have NB135_151 := n13_; have NB151_135 := n14_; clear n0_ n1_ n2_ n3_ n4_ n5_ n6_ n7_ n8_ n9_ n10_ n11_ n12_ n13_ n14_; clear hb hbox hg; have hnb69 := NB151_118.out; have hnc69 := NB118_151.out; have hnb70 := NB151_119.out; have hnc70 := NB119_151.out; have hnb71 := NB151_135.out; have hnc71 := NB135_151.out; have hcz72_0 : w68.cell? ⟨gb151, 0, none⟩ = some (.int .i64 0) := (blk_cell BK151.out 0).trans rfl; have hcz72_1 : w68.cell? ⟨gb151, 1, none⟩ = some (.int .i64 0) := (blk_cell BK151.out 1).trans rfl; have hfz72_0 := blk_frozen BK151.out 0; have hfz72_1 := blk_frozen BK151.out 1) | ((with_reducible refine gate_callee (f := 24) rfl ?_); refine goesL_ (some 58) rfl rfl Tryd.func24 (by kernel_rfl) rfl #[] rfl (by (try simp only [List.map_toArray, List.map_cons, List.map_nil]); first | done | rfl | (simp only [List.length_drop, List.length_take]; rfl)) ?_; (with_reducible refine (cottonpadlaw04_hood.calls  t152 t153 t154 t155 t156 t157 t158 t159 t160 _ A28.out).mono ?_); rintro e w73 ⟨rfl, hb⟩; refine ⟨_, rfl, ?_⟩; have n0_ := A_ (Kd.R_below (by (with_reducible repeat (first | apply Kd.R_alloc | apply Kd.R_drewN | apply Kd.R_drew)); exact (Kd.R_mono (Kd.R_far (p := ⟨gb151, 1, none⟩) (Kd.R_far (p := ⟨gb151, 0, none⟩) (Kd.R_types HO131.out BK151.out (by decide)) (fun _ hk => hk.2) (.int .i64 t148)) (fun _ hk => hk.2) (.int .i64 t149)) (fun _ h_ => h_.1))) hb); have n1_ := A_ (Kd.R_below (by (with_reducible repeat (first | apply Kd.R_alloc | apply Kd.R_drewN | apply Kd.R_drew)); exact (Kd.R_mono (Kd.R_far (p := ⟨gb151, 1, none⟩) (Kd.R_far (p := ⟨gb151, 0, none⟩) (Kd.R_types HO147.out BK151.out (by decide)) (fun _ hk => hk.2) (.int .i64 t148)) (fun _ hk => hk.2) (.int .i64 t149)) (fun _ h_ => h_.1))) hb); have n2_ := A_ (blk_below (g := gb118) (o := .cells #[.int .i64 t107, .int .i64 t108, .int .i64 t109, .int .i64 t110, .int .i64 t111, .int .i64 t112, .int .i64 t113, .int .i64 31, .int .i64 t115] 25 (0, 0)) (by (with_reducible repeat (first | refine blk_drewN ?_ _ | refine blk_drew ?_ | refine blk_alloc ?_ _)); refine blk_far ?_ NB118_151.out _; (with_reducible repeat (first | refine blk_drewN ?_ _ | refine blk_drew ?_ | refine blk_alloc ?_ _)); refine blk_far ?_ NB118_151.out _; (with_reducible repeat (first | refine blk_drewN ?_ _ | refine blk_drew ?_ | refine blk_alloc ?_ _)); exact BK118.out) hb); have n3_ := A_ (blk_below (g := gb119) (o := .cells #[.int .i64 t116, .int .i64 0] 48 (0, 0)) (by (with_reducible repeat (first | refine blk_drewN ?_ _ | refine blk_drew ?_ | refine blk_alloc ?_ _)); refine blk_far ?_ NB119_151.out _; (with_reducible repeat (first | refine blk_drewN ?_ _ | refine blk_drew ?_ | refine blk_alloc ?_ _)); refine blk_far ?_ NB119_151.out _; (with_reducible repeat (first | refine blk_drewN ?_ _ | refine blk_drew ?_ | refine blk_alloc ?_ _)); exact BK119.out) hb); have n4_ := A_ (blk_below (g := gb135) (o := .cells #[.int .i64 t132, .int .i64 t133] 23 (0, 0)) (by (with_reducible repeat (first | refine blk_drewN ?_ _ | refine blk_drew ?_ | refine blk_alloc ?_ _)); refine blk_far ?_ NB135_151.out _; (with_reducible repeat (first | refine blk_drewN ?_ _ | refine blk_drew ?_ | refine blk_alloc ?_ _)); refine blk_far ?_ NB135_151.out _; (with_reducible repeat (first | refine blk_drewN ?_ _ | refine blk_drew ?_ | refine blk_alloc ?_ _)); exact BK135.out) hb); have n5_ := A_ (blk_below (g := gb151) (o := .cells #[.int .i64 t148, .int .i64 t149] 23 (0, 0)) (by (with_reducible repeat (first | refine blk_drewN ?_ _ | refine blk_drew ?_ | refine blk_alloc ?_ _)); refine blk_put (cs := #[.int .i64 t148, .int .i64 0]) ?_ 1 _ rfl; (with_reducible repeat (first | refine blk_drewN ?_ _ | refine blk_drew ?_ | refine blk_alloc ?_ _)); refine blk_put (cs := #[.int .i64 0, .int .i64 0]) ?_ 0 _ rfl; (with_reducible repeat (first | refine blk_drewN ?_ _ | refine blk_drew ?_ | refine blk_alloc ?_ _)); exact BK151.out) hb); have n6_ := A_ (below_step (by repeat (first | (with_reducible first | exact HB.out | apply below_alloc | apply pw_below_drewN | apply below_drew1 | refine below_set ?_ GE118.out | refine below_set ?_ GE119.out | refine below_set ?_ GE135.out | refine below_set ?_ GE151.out) | exact HB.out)) hb); clear HO131; clear HO147; clear BK118; clear BK119; clear BK135; clear BK151; clear HB; have HO131 := n0_; have HO147 := n1_; have BK118 := n2_; have BK119 := n3_; have BK135 := n4_; have BK151 := n5_; have HB := n6_; clear n0_ n1_ n2_ n3_ n4_ n5_ n6_; (try clear hb); (try clear hb2); (try clear hk); (try clear hi)) | ((with_reducible refine gate_callee (f := 26) rfl ?_); refine goesL_ (some 59) rfl rfl Tryd.func26 (by kernel_rfl) rfl #[] rfl (by (try simp only [List.map_toArray, List.map_cons, List.map_nil]); first | done | rfl | (simp only [List.length_drop, List.length_take]; rfl)) ?_; (with_reducible refine (cottonpadlaw04_reads.calls  t161 _ A29.out).mono ?_); rintro e w74 ⟨v162, rfl, ho0, hb⟩; refine ⟨_, rfl, ?_⟩; have n0_ := A_ (Kd.R_elder' (kr_ HO131.out) (Kd.R_base ho0) hb); have n1_ := A_ (Kd.R_elder' (kr_ HO147.out) (Kd.R_base ho0) hb); have n2_ := A_ (Kd.R_lower (Kd.R_new' (Kd.R_new' ho0 (Kd.R_lt (kr_ HO131.out))) (Kd.R_lt (kr_ HO147.out))) (below_size (by repeat (first | (with_reducible first | exact HB.out | apply below_alloc | apply pw_below_drewN | apply below_drew1 | refine below_set ?_ GE118.out | refine below_set ?_ GE119.out | refine below_set ?_ GE135.out | refine below_set ?_ GE151.out) | exact HB.out)))); have n3_ := bb_ BK118.out hb; have n4_ := bb_ BK119.out hb; have n5_ := bb_ BK135.out hb; have n6_ := bb_ BK151.out hb; have n7_ := A_ (below_step (by repeat (first | (with_reducible first | exact HB.out | apply below_alloc | apply pw_below_drewN | apply below_drew1 | refine below_set ?_ GE118.out | refine below_set ?_ GE119.out | refine below_set ?_ GE135.out | refine below_set ?_ GE151.out) | exact HB.out)) hb); clear HO131; clear HO147; clear BK118; clear BK119; clear BK135; clear BK151; clear HB; have HO131 := n0_; have HO147 := n1_; have HO163 := n2_; have BK118 := n3_; have BK119 := n4_; have BK135 := n5_; have BK151 := n6_; have HB := n7_; clear n0_ n1_ n2_ n3_ n4_ n5_ n6_ n7_; (try clear hb); (try clear hb2); (try clear hk); (try clear hi); (try clear ho0); obtain ⟨Ao75, co75, eo75⟩ := Kd.R_slice HO163.out; subst eo75) | ((with_reducible refine gate_callee (f := 16) rfl ?_); refine goesL_ (some 60) rfl rfl Tryd.func16 (by kernel_rfl) rfl #[.agg #[.int .i64 t152, .int .i64 t153, .int .i64 t154, .int .i64 t155, .int .i64 t156, .int .i64 t157, .int .i64 t158, .int .i64 t159, .int .i64 t160], .slice Ao75 t161.length co75, .int .i64 0] rfl (by (try simp only [List.map_toArray, List.map_cons, List.map_nil]); first | done | rfl | (simp only [List.length_drop, List.length_take]; rfl)) ?_; (with_reducible refine (burn_First.calls kj0 t152 t153 t154 t155 t156 t157 t158 t159 t160 _ _ t161 0 t164 t165 t166 t167 _ ?side1 ?side2 ?side3 A30.out).mono ?_); (case side1 => repeat (first | exact (Kd.R_reads' HO163.out).2.2 | (with_reducible refine Kd.C_alloc ?_ _) | (with_reducible refine Kd.C_drewN ?_ _) | (with_reducible refine Kd.C_drew ?_))); (case side2 => exact (Kd.R_reads' HO163.out).2.1); (case side3 => exact GlobOK.below HG.out (by repeat (first | (with_reducible first | exact HB.out | apply below_alloc | apply pw_below_drewN | apply below_drew1 | refine below_set ?_ GE118.out | refine below_set ?_ GE119.out | refine below_set ?_ GE135.out | refine below_set ?_ GE151.out) | exact HB.out))); rintro e w76 ⟨rfl, hb⟩; refine ⟨_, rfl, ?_⟩; have n0_ := A_ (Kd.R_below (kr_ HO131.out) hb); have n1_ := A_ (Kd.R_below (kr_ HO147.out) hb); have n2_ := A_ (Kd.R_below (kr_ HO163.out) hb); have n3_ := bb_ BK118.out hb; have n4_ := bb_ BK119.out hb; have n5_ := bb_ BK135.out hb; have n6_ := bb_ BK151.out hb; have n7_ := A_ (below_step (by repeat (first | (with_reducible first | exact HB.out | apply below_alloc | apply pw_below_drewN | apply below_drew1 | refine below_set ?_ GE118.out | refine below_set ?_ GE119.out | refine below_set ?_ GE135.out | refine below_set ?_ GE151.out) | exact HB.out)) hb); clear HO131; clear HO147; clear HO163; clear BK118; clear BK119; clear BK135; clear BK151; clear HB; have HO131 := n0_; have HO147 := n1_; have HO163 := n2_; have BK118 := n3_; have BK119 := n4_; have BK135 := n5_; have BK151 := n6_; have HB := n7_; clear n0_ n1_ n2_ n3_ n4_ n5_ n6_ n7_; (try clear hb); (try clear hb2); (try clear hk); (try clear hi)) | ((with_reducible refine gate_dst (N := 7) rfl ?_); (try (refine gate_guard (by rfl) ?_; dsimp only)); refine box_event ?hg (N := 7) ?hd (cs := #[.int .i64 0, .int .i64 0]) (t := 23) ?hr ?_; (case hd => rfl); (case hg => rfl); (case hr => first | (go_simp; done) | (go_simp; rfl)); intro gb168 hg w77 hbox hb; have n0_ := A_ (Kd.R_below (kr_ HO131.out) hb); have n1_ := A_ (Kd.R_below (kr_ HO147.out) hb); have n2_ := A_ (Kd.R_below (kr_ HO163.out) hb); have n3_ := bb_ BK118.out hb; have n4_ := bb_ BK119.out hb; have n5_ := bb_ BK135.out hb; have n6_ := bb_ BK151.out hb; have n7_ := A_ (below_step (by repeat (first | (with_reducible first | exact HB.out | apply below_alloc | apply pw_below_drewN | apply below_drew1 | refine below_set ?_ GE118.out | refine below_set ?_ GE119.out | refine below_set ?_ GE135.out | refine below_set ?_ GE151.out) | exact HB.out)) hb); have n8_ := A_ (hbox); have n9_ := A_ ((by rw [hg]; exact (below_size (by repeat (first | (with_reducible first | exact HB.out | apply below_alloc | apply pw_below_drewN | apply below_drew1 | refine below_set ?_ GE118.out | refine below_set ?_ GE119.out | refine below_set ?_ GE135.out | refine below_set ?_ GE151.out) | exact HB.out))) : w.heap.size ≤ gb168)); have n10_ := A_ ((by rw [hg]; exact (below_size (by repeat (first | (with_reducible first | exact HB.out | apply below_alloc | apply pw_below_drewN | apply below_drew1 | refine below_set ?_ GE118.out | refine below_set ?_ GE119.out | refine below_set ?_ GE135.out | refine below_set ?_ GE151.out) | exact HB.out))) : w.heap.size ≤ gb168)); have n11_ := A_ ((by rw [hg]; exact Nat.ne_of_lt (blk_lt (g := gb118) (o := .cells #[.int .i64 t107, .int .i64 t108, .int .i64 t109, .int .i64 t110, .int .i64 t111, .int .i64 t112, .int .i64 t113, .int .i64 31, .int .i64 t115] 25 (0, 0)) (bk_ BK118.out)) : gb118 ≠ gb168)); have n12_ := A_ ((by rw [hg]; exact Nat.ne_of_gt (blk_lt (g := gb118) (o := .cells #[.int .i64 t107, .int .i64 t108, .int .i64 t109, .int .i64 t110, .int .i64 t111, .int .i64 t112, .int .i64 t113, .int .i64 31, .int .i64 t115] 25 (0, 0)) (bk_ BK118.out)) : gb168 ≠ gb118)); have n13_ := A_ ((by rw [hg]; exact Nat.ne_of_lt (blk_lt (g := gb119) (o := .cells #[.int .i64 t116, .int .i64 0] 48 (0, 0)) (bk_ BK119.out)) : gb119 ≠ gb168)); have n14_ := A_ ((by rw [hg]; exact Nat.ne_of_gt (blk_lt (g := gb119) (o := .cells #[.int .i64 t116, .int .i64 0] 48 (0, 0)) (bk_ BK119.out)) : gb168 ≠ gb119)); have n15_ := A_ ((by rw [hg]; exact Nat.ne_of_lt (blk_lt (g := gb135) (o := .cells #[.int .i64 t132, .int .i64 t133] 23 (0, 0)) (bk_ BK135.out)) : gb135 ≠ gb168)); have n16_ := A_ ((by rw [hg]; exact Nat.ne_of_gt (blk_lt (g := gb135) (o := .cells #[.int .i64 t132, .int .i64 t133] 23 (0, 0)) (bk_ BK135.out)) : gb168 ≠ gb135)); have n17_ := A_ ((by rw [hg]; exact Nat.ne_of_lt (blk_lt (g := gb151) (o := .cells #[.int .i64 t148, .int .i64 t149] 23 (0, 0)) (bk_ BK151.out)) : gb151 ≠ gb168)); have n18_ := A_ ((by rw [hg]; exact Nat.ne_of_gt (blk_lt (g := gb151) (o := .cells #[.int .i64 t148, .int .i64 t149] 23 (0, 0)) (bk_ BK151.out)) : gb168 ≠ gb151)); clear HO131; clear HO147; clear HO163; clear BK118; clear BK119; clear BK135; clear BK151; clear HB; have HO131 := n0_; have HO147 := n1_; have HO163 := n2_; have BK118 := n3_; have BK119 := n4_; have BK135 := n5_; have BK151 := n6_; have HB := n7_; have BK168 := n8_; have GW168 := n9_; have GE168 := n10_; have NB118_168 := n11_; have NB168_118 := n12_; have NB119_168 := n13_; have NB168_119 := n14_; have NB135_168 := n15_; have NB168_135 := n16_; have NB151_168 := n17_; have NB168_151 := n18_; clear n0_ n1_ n2_ n3_ n4_ n5_ n6_ n7_ n8_ n9_ n10_ n11_ n12_ n13_ n14_ n15_ n16_ n17_ n18_; clear hb hbox hg; have hnb78 := NB168_118.out; have hnc78 := NB118_168.out; have hnb79 := NB168_119.out; have hnc79 := NB119_168.out; have hnb80 := NB168_135.out; have hnc80 := NB135_168.out; have hnb81 := NB168_151.out; have hnc81 := NB151_168.out; have hcz82_0 : w77.cell? ⟨gb168, 0, none⟩ = some (.int .i64 0) := (blk_cell BK168.out 0).trans rfl; have hcz82_1 : w77.cell? ⟨gb168, 1, none⟩ = some (.int .i64 0) := (blk_cell BK168.out 1).trans rfl; have hfz82_0 := blk_frozen BK168.out 0; have hfz82_1 := blk_frozen BK168.out 1) | ((with_reducible refine gate_callee (f := 25) rfl ?_); refine goesL_ (some 65) rfl rfl Tryd.func25 (by kernel_rfl) rfl #[] rfl (by (try simp only [List.map_toArray, List.map_cons, List.map_nil]); first | done | rfl | (simp only [List.length_drop, List.length_take]; rfl)) ?_; (with_reducible refine (cottonpadlaw04_lamp.calls  t169 t170 _ A31.out).mono ?_); rintro e w83 ⟨rfl, hb⟩; refine ⟨_, rfl, ?_⟩; have n0_ := A_ (Kd.R_below (by (with_reducible repeat (first | apply Kd.R_alloc | apply Kd.R_drewN | apply Kd.R_drew)); exact (Kd.R_mono (Kd.R_far (p := ⟨gb168, 1, none⟩) (Kd.R_far (p := ⟨gb168, 0, none⟩) (Kd.R_types HO131.out BK168.out (by decide)) (fun _ hk => hk.2) (.int .i64 t164)) (fun _ hk => hk.2) (.int .i64 t165)) (fun _ h_ => h_.1))) hb); have n1_ := A_ (Kd.R_below (by (with_reducible repeat (first | apply Kd.R_alloc | apply Kd.R_drewN | apply Kd.R_drew)); exact (Kd.R_mono (Kd.R_far (p := ⟨gb168, 1, none⟩) (Kd.R_far (p := ⟨gb168, 0, none⟩) (Kd.R_types HO147.out BK168.out (by decide)) (fun _ hk => hk.2) (.int .i64 t164)) (fun _ hk => hk.2) (.int .i64 t165)) (fun _ h_ => h_.1))) hb); have n2_ := A_ (Kd.R_below (by (with_reducible repeat (first | apply Kd.R_alloc | apply Kd.R_drewN | apply Kd.R_drew)); exact (Kd.R_mono (Kd.R_far (p := ⟨gb168, 1, none⟩) (Kd.R_far (p := ⟨gb168, 0, none⟩) (Kd.R_types HO163.out BK168.out (by decide)) (fun _ hk => hk.2) (.int .i64 t164)) (fun _ hk => hk.2) (.int .i64 t165)) (fun _ h_ => h_.1))) hb); have n3_ := A_ (blk_below (g := gb118) (o := .cells #[.int .i64 t107, .int .i64 t108, .int .i64 t109, .int .i64 t110, .int .i64 t111, .int .i64 t112, .int .i64 t113, .int .i64 31, .int .i64 t115] 25 (0, 0)) (by (with_reducible repeat (first | refine blk_drewN ?_ _ | refine blk_drew ?_ | refine blk_alloc ?_ _)); refine blk_far ?_ NB118_168.out _; (with_reducible repeat (first | refine blk_drewN ?_ _ | refine blk_drew ?_ | refine blk_alloc ?_ _)); refine blk_far ?_ NB118_168.out _; (with_reducible repeat (first | refine blk_drewN ?_ _ | refine blk_drew ?_ | refine blk_alloc ?_ _)); exact BK118.out) hb); have n4_ := A_ (blk_below (g := gb119) (o := .cells #[.int .i64 t116, .int .i64 0] 48 (0, 0)) (by (with_reducible repeat (first | refine blk_drewN ?_ _ | refine blk_drew ?_ | refine blk_alloc ?_ _)); refine blk_far ?_ NB119_168.out _; (with_reducible repeat (first | refine blk_drewN ?_ _ | refine blk_drew ?_ | refine blk_alloc ?_ _)); refine blk_far ?_ NB119_168.out _; (with_reducible repeat (first | refine blk_drewN ?_ _ | refine blk_drew ?_ | refine blk_alloc ?_ _)); exact BK119.out) hb); have n5_ := A_ (blk_below (g := gb135) (o := .cells #[.int .i64 t132, .int .i64 t133] 23 (0, 0)) (by (with_reducible repeat (first | refine blk_drewN ?_ _ | refine blk_drew ?_ | refine blk_alloc ?_ _)); refine blk_far ?_ NB135_168.out _; (with_reducible repeat (first | refine blk_drewN ?_ _ | refine blk_drew ?_ | refine blk_alloc ?_ _)); refine blk_far ?_ NB135_168.out _; (with_reducible repeat (first | refine blk_drewN ?_ _ | refine blk_drew ?_ | refine blk_alloc ?_ _)); exact BK135.out) hb); have n6_ := A_ (blk_below (g := gb151) (o := .cells #[.int .i64 t148, .int .i64 t149] 23 (0, 0)) (by (with_reducible repeat (first | refine blk_drewN ?_ _ | refine blk_drew ?_ | refine blk_alloc ?_ _)); refine blk_far ?_ NB151_168.out _; (with_reducible repeat (first | refine blk_drewN ?_ _ | refine blk_drew ?_ | refine blk_alloc ?_ _)); refine blk_far ?_ NB151_168.out _; (with_reducible repeat (first | refine blk_drewN ?_ _ | refine blk_drew ?_ | refine blk_alloc ?_ _)); exact BK151.out) hb); have n7_ := A_ (blk_below (g := gb168) (o := .cells #[.int .i64 t164, .int .i64 t165] 23 (0, 0)) (by (with_reducible repeat (first | refine blk_drewN ?_ _ | refine blk_drew ?_ | refine blk_alloc ?_ _)); refine blk_put (cs := #[.int .i64 t164, .int .i64 0]) ?_ 1 _ rfl; (with_reducible repeat (first | refine blk_drewN ?_ _ | refine blk_drew ?_ | refine blk_alloc ?_ _)); refine blk_put (cs := #[.int .i64 0, .int .i64 0]) ?_ 0 _ rfl; (with_reducible repeat (first | refine blk_drewN ?_ _ | refine blk_drew ?_ | refine blk_alloc ?_ _)); exact BK168.out) hb); have n8_ := A_ (below_step (by repeat (first | (with_reducible first | exact HB.out | apply below_alloc | apply pw_below_drewN | apply below_drew1 | refine below_set ?_ GE118.out | refine below_set ?_ GE119.out | refine below_set ?_ GE135.out | refine below_set ?_ GE151.out | refine below_set ?_ GE168.out) | exact HB.out)) hb); clear HO131; clear HO147; clear HO163; clear BK118; clear BK119; clear BK135; clear BK151; clear BK168; clear HB; have HO131 := n0_; have HO147 := n1_; have HO163 := n2_; have BK118 := n3_; have BK119 := n4_; have BK135 := n5_; have BK151 := n6_; have BK168 := n7_; have HB := n8_; clear n0_ n1_ n2_ n3_ n4_ n5_ n6_ n7_ n8_; (try clear hb); (try clear hb2); (try clear hk); (try clear hi)) | ((with_reducible refine gate_callee (f := 28) rfl ?_); refine goesL_ (some 66) rfl rfl Tryd.func28 (by kernel_rfl) rfl #[] rfl (by (try simp only [List.map_toArray, List.map_cons, List.map_nil]); first | done | rfl | (simp only [List.length_drop, List.length_take]; rfl)) ?_; (with_reducible refine (cottonpadlaw04_lights.calls  t171 _ A32.out).mono ?_); rintro e w84 ⟨v172, rfl, ho0, hb⟩; refine ⟨_, rfl, ?_⟩; have n0_ := A_ (Kd.R_elder' (kr_ HO131.out) (Kd.R_base ho0) hb); have n1_ := A_ (Kd.R_elder' (kr_ HO147.out) (Kd.R_base ho0) hb); have n2_ := A_ (Kd.R_elder' (kr_ HO163.out) (Kd.R_base ho0) hb); have n3_ := A_ (Kd.R_lower (Kd.R_new' (Kd.R_new' (Kd.R_new' ho0 (Kd.R_lt (kr_ HO131.out))) (Kd.R_lt (kr_ HO147.out))) (Kd.R_lt (kr_ HO163.out))) (below_size (by repeat (first | (with_reducible first | exact HB.out | apply below_alloc | apply pw_below_drewN | apply below_drew1 | refine below_set ?_ GE118.out | refine below_set ?_ GE119.out | refine below_set ?_ GE135.out | refine below_set ?_ GE151.out | refine below_set ?_ GE168.out) | exact HB.out)))); have n4_ := bb_ BK118.out hb; have n5_ := bb_ BK119.out hb; have n6_ := bb_ BK135.out hb; have n7_ := bb_ BK151.out hb; have n8_ := bb_ BK168.out hb; have n9_ := A_ (below_step (by repeat (first | (with_reducible first | exact HB.out | apply below_alloc | apply pw_below_drewN | apply below_drew1 | refine below_set ?_ GE118.out | refine below_set ?_ GE119.out | refine below_set ?_ GE135.out | refine below_set ?_ GE151.out | refine below_set ?_ GE168.out) | exact HB.out)) hb); clear HO131; clear HO147; clear HO163; clear BK118; clear BK119; clear BK135; clear BK151; clear BK168; clear HB; have HO131 := n0_; have HO147 := n1_; have HO163 := n2_; have HO173 := n3_; have BK118 := n4_; have BK119 := n5_; have BK135 := n6_; have BK151 := n7_; have BK168 := n8_; have HB := n9_; clear n0_ n1_ n2_ n3_ n4_ n5_ n6_ n7_ n8_ n9_; (try clear hb); (try clear hb2); (try clear hk); (try clear hi); (try clear ho0); obtain ⟨Ao85, co85, eo85⟩ := Kd.R_slice HO173.out; subst eo85) | ((with_reducible refine gate_callee (f := 27) rfl ?_); refine goesL_ (some 67) rfl rfl Tryd.func27 (by kernel_rfl) rfl #[.agg #[.int .i64 t169, .int .i64 t170], .slice Ao85 t171.length co85, .int .i64 4] rfl (by (try simp only [List.map_toArray, List.map_cons, List.map_nil]); first | done | rfl | (simp only [List.length_drop, List.length_take]; rfl)) ?_; (with_reducible refine (burn_Dark.calls kj0 t169 t170 _ _ t171 4 t174 t175 t176 _ ?side1 ?side2 A33.out).mono ?_); (case side1 => repeat (first | exact (Kd.R_reads' HO173.out).2.2 | (with_reducible refine Kd.C_alloc ?_ _) | (with_reducible refine Kd.C_drewN ?_ _) | (with_reducible refine Kd.C_drew ?_))); (case side2 => exact (Kd.R_reads' HO173.out).2.1); rintro e w86 ⟨rfl, hb⟩; refine ⟨_, rfl, ?_⟩; have n0_ := A_ (Kd.R_below (kr_ HO131.out) hb); have n1_ := A_ (Kd.R_below (kr_ HO147.out) hb); have n2_ := A_ (Kd.R_below (kr_ HO163.out) hb); have n3_ := A_ (Kd.R_below (kr_ HO173.out) hb); have n4_ := bb_ BK118.out hb; have n5_ := bb_ BK119.out hb; have n6_ := bb_ BK135.out hb; have n7_ := bb_ BK151.out hb; have n8_ := bb_ BK168.out hb; have n9_ := A_ (below_step (by repeat (first | (with_reducible first | exact HB.out | apply below_alloc | apply pw_below_drewN | apply below_drew1 | refine below_set ?_ GE118.out | refine below_set ?_ GE119.out | refine below_set ?_ GE135.out | refine below_set ?_ GE151.out | refine below_set ?_ GE168.out) | exact HB.out)) hb); clear HO131; clear HO147; clear HO163; clear HO173; clear BK118; clear BK119; clear BK135; clear BK151; clear BK168; clear HB; have HO131 := n0_; have HO147 := n1_; have HO163 := n2_; have HO173 := n3_; have BK118 := n4_; have BK119 := n5_; have BK135 := n6_; have BK151 := n7_; have BK168 := n8_; have HB := n9_; clear n0_ n1_ n2_ n3_ n4_ n5_ n6_ n7_ n8_ n9_; (try clear hb); (try clear hb2); (try clear hk); (try clear hi)) | ((with_reducible refine gate_dst (N := 10) rfl ?_); (try (refine gate_guard (by rfl) ?_; dsimp only)); refine box_event ?hg (N := 10) ?hd (cs := #[.int .i64 0, .int .i64 0]) (t := 23) ?hr ?_; (case hd => rfl); (case hg => rfl); (case hr => first | (go_simp; done) | (go_simp; rfl)); intro gb177 hg w87 hbox hb; have n0_ := A_ (Kd.R_below (kr_ HO131.out) hb); have n1_ := A_ (Kd.R_below (kr_ HO147.out) hb); have n2_ := A_ (Kd.R_below (kr_ HO163.out) hb); have n3_ := A_ (Kd.R_below (kr_ HO173.out) hb); have n4_ := bb_ BK118.out hb; have n5_ := bb_ BK119.out hb; have n6_ := bb_ BK135.out hb; have n7_ := bb_ BK151.out hb; have n8_ := bb_ BK168.out hb; have n9_ := A_ (below_step (by repeat (first | (with_reducible first | exact HB.out | apply below_alloc | apply pw_below_drewN | apply below_drew1 | refine below_set ?_ GE118.out | refine below_set ?_ GE119.out | refine below_set ?_ GE135.out | refine below_set ?_ GE151.out | refine below_set ?_ GE168.out) | exact HB.out)) hb); have n10_ := A_ (hbox); have n11_ := A_ ((by rw [hg]; exact (below_size (by repeat (first | (with_reducible first | exact HB.out | apply below_alloc | apply pw_below_drewN | apply below_drew1 | refine below_set ?_ GE118.out | refine below_set ?_ GE119.out | refine below_set ?_ GE135.out | refine below_set ?_ GE151.out | refine below_set ?_ GE168.out) | exact HB.out))) : w.heap.size ≤ gb177)); have n12_ := A_ ((by rw [hg]; exact (below_size (by repeat (first | (with_reducible first | exact HB.out | apply below_alloc | apply pw_below_drewN | apply below_drew1 | refine below_set ?_ GE118.out | refine below_set ?_ GE119.out | refine below_set ?_ GE135.out | refine below_set ?_ GE151.out | refine below_set ?_ GE168.out) | exact HB.out))) : w.heap.size ≤ gb177)); have n13_ := A_ ((by rw [hg]; exact Nat.ne_of_lt (blk_lt (g := gb118) (o := .cells #[.int .i64 t107, .int .i64 t108, .int .i64 t109, .int .i64 t110, .int .i64 t111, .int .i64 t112, .int .i64 t113, .int .i64 31, .int .i64 t115] 25 (0, 0)) (bk_ BK118.out)) : gb118 ≠ gb177)); have n14_ := A_ ((by rw [hg]; exact Nat.ne_of_gt (blk_lt (g := gb118) (o := .cells #[.int .i64 t107, .int .i64 t108, .int .i64 t109, .int .i64 t110, .int .i64 t111, .int .i64 t112, .int .i64 t113, .int .i64 31, .int .i64 t115] 25 (0, 0)) (bk_ BK118.out)) : gb177 ≠ gb118)); have n15_ := A_ ((by rw [hg]; exact Nat.ne_of_lt (blk_lt (g := gb119) (o := .cells #[.int .i64 t116, .int .i64 0] 48 (0, 0)) (bk_ BK119.out)) : gb119 ≠ gb177)); have n16_ := A_ ((by rw [hg]; exact Nat.ne_of_gt (blk_lt (g := gb119) (o := .cells #[.int .i64 t116, .int .i64 0] 48 (0, 0)) (bk_ BK119.out)) : gb177 ≠ gb119)); have n17_ := A_ ((by rw [hg]; exact Nat.ne_of_lt (blk_lt (g := gb135) (o := .cells #[.int .i64 t132, .int .i64 t133] 23 (0, 0)) (bk_ BK135.out)) : gb135 ≠ gb177)); have n18_ := A_ ((by rw [hg]; exact Nat.ne_of_gt (blk_lt (g := gb135) (o := .cells #[.int .i64 t132, .int .i64 t133] 23 (0, 0)) (bk_ BK135.out)) : gb177 ≠ gb135)); have n19_ := A_ ((by rw [hg]; exact Nat.ne_of_lt (blk_lt (g := gb151) (o := .cells #[.int .i64 t148, .int .i64 t149] 23 (0, 0)) (bk_ BK151.out)) : gb151 ≠ gb177)); have n20_ := A_ ((by rw [hg]; exact Nat.ne_of_gt (blk_lt (g := gb151) (o := .cells #[.int .i64 t148, .int .i64 t149] 23 (0, 0)) (bk_ BK151.out)) : gb177 ≠ gb151)); have n21_ := A_ ((by rw [hg]; exact Nat.ne_of_lt (blk_lt (g := gb168) (o := .cells #[.int .i64 t164, .int .i64 t165] 23 (0, 0)) (bk_ BK168.out)) : gb168 ≠ gb177)); have n22_ := A_ ((by rw [hg]; exact Nat.ne_of_gt (blk_lt (g := gb168) (o := .cells #[.int .i64 t164, .int .i64 t165] 23 (0, 0)) (bk_ BK168.out)) : gb177 ≠ gb168)); clear HO131; clear HO147; clear HO163; clear HO173; clear BK118; clear BK119; clear BK135; clear BK151; clear BK168; clear HB; have HO131 := n0_; have HO147 := n1_; have HO163 := n2_; have HO173 := n3_; have BK118 := n4_; have BK119 := n5_; have BK135 := n6_; have BK151 := n7_; have BK168 := n8_; have HB := n9_; have BK177 := n10_; have GW177 := n11_; have GE177 := n12_; have NB118_177 := n13_; have NB177_118 := n14_; have NB119_177 := n15_; have NB177_119 := n16_; have NB135_177 := n17_; have NB177_135 := n18_; have NB151_177 := n19_; have NB177_151 := n20_; have NB168_177 := n21_; have NB177_168 := n22_; clear n0_ n1_ n2_ n3_ n4_ n5_ n6_ n7_ n8_ n9_ n10_ n11_ n12_ n13_ n14_ n15_ n16_ n17_ n18_ n19_ n20_ n21_ n22_; clear hb hbox hg; have hnb88 := NB177_118.out; have hnc88 := NB118_177.out; have hnb89 := NB177_119.out; have hnc89 := NB119_177.out; have hnb90 := NB177_135.out; have hnc90 := NB135_177.out; have hnb91 := NB177_151.out; have hnc91 := NB151_177.out; have hnb92 := NB177_168.out; have hnc92 := NB168_177.out; have hcz93_0 : w87.cell? ⟨gb177, 0, none⟩ = some (.int .i64 0) := (blk_cell BK177.out 0).trans rfl; have hcz93_1 : w87.cell? ⟨gb177, 1, none⟩ = some (.int .i64 0) := (blk_cell BK177.out 1).trans rfl; have hfz93_0 := blk_frozen BK177.out 0; have hfz93_1 := blk_frozen BK177.out 1))
           have n0_ : Aside0 (Kd.R (Kd.int .i64) 3 ((w87.setCell ⟨gb177, 0, none⟩ (.int .i64 t174)).setCell ⟨gb177, 1, none⟩ (.int .i64 t175)) w.heap.size (fun k_ => some k_ ≠ (.slice Ao66 t145.length co66 : Value).ownBlock ∧ some k_ ≠ (.slice Ao75 t161.length co75 : Value).ownBlock ∧ some k_ ≠ (.slice Ao85 t171.length co85 : Value).ownBlock) (.slice Ao58 t129.length co58) t129) := ⟨by (with_reducible repeat (first | apply Kd.R_alloc | apply Kd.R_drewN | apply Kd.R_drew)); exact Kd.R_mono (Kd.R_far (p := ⟨gb177, 1, none⟩) (Kd.R_far (p := ⟨gb177, 0, none⟩) (Kd.R_types HO131.out BK177.out (by decide)) (fun _ hk => hk.2) (.int .i64 t174)) (fun _ hk => hk.2) (.int .i64 t175)) (fun _ hk => ⟨hk.1.1.1.2, ⟨hk.1.1.2, hk.1.2⟩⟩)⟩
           have n1_ : Aside0 (Kd.R (Kd.int .i64) 3 ((w87.setCell ⟨gb177, 0, none⟩ (.int .i64 t174)).setCell ⟨gb177, 1, none⟩ (.int .i64 t175)) w.heap.size (fun k_ => some k_ ≠ (.slice Ao58 t129.length co58 : Value).ownBlock ∧ some k_ ≠ (.slice Ao75 t161.length co75 : Value).ownBlock ∧ some k_ ≠ (.slice Ao85 t171.length co85 : Value).ownBlock) (.slice Ao66 t145.length co66) t145) := ⟨by (with_reducible repeat (first | apply Kd.R_alloc | apply Kd.R_drewN | apply Kd.R_drew)); exact Kd.R_mono (Kd.R_far (p := ⟨gb177, 1, none⟩) (Kd.R_far (p := ⟨gb177, 0, none⟩) (Kd.R_types HO147.out BK177.out (by decide)) (fun _ hk => hk.2) (.int .i64 t174)) (fun _ hk => hk.2) (.int .i64 t175)) (fun _ hk => ⟨hk.1.1.1.2, ⟨hk.1.1.2, hk.1.2⟩⟩)⟩
           have n2_ : Aside0 (Kd.R (Kd.int .i64) 3 ((w87.setCell ⟨gb177, 0, none⟩ (.int .i64 t174)).setCell ⟨gb177, 1, none⟩ (.int .i64 t175)) w.heap.size (fun k_ => some k_ ≠ (.slice Ao58 t129.length co58 : Value).ownBlock ∧ some k_ ≠ (.slice Ao66 t145.length co66 : Value).ownBlock ∧ some k_ ≠ (.slice Ao85 t171.length co85 : Value).ownBlock) (.slice Ao75 t161.length co75) t161) := ⟨by (with_reducible repeat (first | apply Kd.R_alloc | apply Kd.R_drewN | apply Kd.R_drew)); exact Kd.R_mono (Kd.R_far (p := ⟨gb177, 1, none⟩) (Kd.R_far (p := ⟨gb177, 0, none⟩) (Kd.R_types HO163.out BK177.out (by decide)) (fun _ hk => hk.2) (.int .i64 t174)) (fun _ hk => hk.2) (.int .i64 t175)) (fun _ hk => ⟨hk.1.1.1.2, ⟨hk.1.1.2, hk.1.2⟩⟩)⟩
           have n3_ : Aside0 (Kd.R (Kd.int .i64) 3 ((w87.setCell ⟨gb177, 0, none⟩ (.int .i64 t174)).setCell ⟨gb177, 1, none⟩ (.int .i64 t175)) w.heap.size (fun k_ => some k_ ≠ (.slice Ao58 t129.length co58 : Value).ownBlock ∧ some k_ ≠ (.slice Ao66 t145.length co66 : Value).ownBlock ∧ some k_ ≠ (.slice Ao75 t161.length co75 : Value).ownBlock) (.slice Ao85 t171.length co85) t171) := ⟨by (with_reducible repeat (first | apply Kd.R_alloc | apply Kd.R_drewN | apply Kd.R_drew)); exact Kd.R_mono (Kd.R_far (p := ⟨gb177, 1, none⟩) (Kd.R_far (p := ⟨gb177, 0, none⟩) (Kd.R_types HO173.out BK177.out (by decide)) (fun _ hk => hk.2) (.int .i64 t174)) (fun _ hk => hk.2) (.int .i64 t175)) (fun _ hk => ⟨hk.1.1.1.2, ⟨hk.1.1.2, hk.1.2⟩⟩)⟩
           have n4_ : Aside0 (((w87.setCell ⟨gb177, 0, none⟩ (.int .i64 t174)).setCell ⟨gb177, 1, none⟩ (.int .i64 t175)).heap[gb118]? = some (.cells #[.int .i64 t107, .int .i64 t108, .int .i64 t109, .int .i64 t110, .int .i64 t111, .int .i64 t112, .int .i64 t113, .int .i64 31, .int .i64 t115] 25 (0, 0))) := ⟨by (with_reducible repeat (first | refine blk_drewN ?_ _ | refine blk_drew ?_ | refine blk_alloc ?_ _)); refine blk_far ?_ NB118_177.out _; (with_reducible repeat (first | refine blk_drewN ?_ _ | refine blk_drew ?_ | refine blk_alloc ?_ _)); refine blk_far ?_ NB118_177.out _; (with_reducible repeat (first | refine blk_drewN ?_ _ | refine blk_drew ?_ | refine blk_alloc ?_ _)); exact BK118.out⟩
           have n5_ : Aside0 (((w87.setCell ⟨gb177, 0, none⟩ (.int .i64 t174)).setCell ⟨gb177, 1, none⟩ (.int .i64 t175)).heap[gb119]? = some (.cells #[.int .i64 t116, .int .i64 0] 48 (0, 0))) := ⟨by (with_reducible repeat (first | refine blk_drewN ?_ _ | refine blk_drew ?_ | refine blk_alloc ?_ _)); refine blk_far ?_ NB119_177.out _; (with_reducible repeat (first | refine blk_drewN ?_ _ | refine blk_drew ?_ | refine blk_alloc ?_ _)); refine blk_far ?_ NB119_177.out _; (with_reducible repeat (first | refine blk_drewN ?_ _ | refine blk_drew ?_ | refine blk_alloc ?_ _)); exact BK119.out⟩
           have n6_ : Aside0 (((w87.setCell ⟨gb177, 0, none⟩ (.int .i64 t174)).setCell ⟨gb177, 1, none⟩ (.int .i64 t175)).heap[gb135]? = some (.cells #[.int .i64 t132, .int .i64 t133] 23 (0, 0))) := ⟨by (with_reducible repeat (first | refine blk_drewN ?_ _ | refine blk_drew ?_ | refine blk_alloc ?_ _)); refine blk_far ?_ NB135_177.out _; (with_reducible repeat (first | refine blk_drewN ?_ _ | refine blk_drew ?_ | refine blk_alloc ?_ _)); refine blk_far ?_ NB135_177.out _; (with_reducible repeat (first | refine blk_drewN ?_ _ | refine blk_drew ?_ | refine blk_alloc ?_ _)); exact BK135.out⟩
           have n7_ : Aside0 (((w87.setCell ⟨gb177, 0, none⟩ (.int .i64 t174)).setCell ⟨gb177, 1, none⟩ (.int .i64 t175)).heap[gb151]? = some (.cells #[.int .i64 t148, .int .i64 t149] 23 (0, 0))) := ⟨by (with_reducible repeat (first | refine blk_drewN ?_ _ | refine blk_drew ?_ | refine blk_alloc ?_ _)); refine blk_far ?_ NB151_177.out _; (with_reducible repeat (first | refine blk_drewN ?_ _ | refine blk_drew ?_ | refine blk_alloc ?_ _)); refine blk_far ?_ NB151_177.out _; (with_reducible repeat (first | refine blk_drewN ?_ _ | refine blk_drew ?_ | refine blk_alloc ?_ _)); exact BK151.out⟩
           have n8_ : Aside0 (((w87.setCell ⟨gb177, 0, none⟩ (.int .i64 t174)).setCell ⟨gb177, 1, none⟩ (.int .i64 t175)).heap[gb168]? = some (.cells #[.int .i64 t164, .int .i64 t165] 23 (0, 0))) := ⟨by (with_reducible repeat (first | refine blk_drewN ?_ _ | refine blk_drew ?_ | refine blk_alloc ?_ _)); refine blk_far ?_ NB168_177.out _; (with_reducible repeat (first | refine blk_drewN ?_ _ | refine blk_drew ?_ | refine blk_alloc ?_ _)); refine blk_far ?_ NB168_177.out _; (with_reducible repeat (first | refine blk_drewN ?_ _ | refine blk_drew ?_ | refine blk_alloc ?_ _)); exact BK168.out⟩
           have n9_ : Aside0 (((w87.setCell ⟨gb177, 0, none⟩ (.int .i64 t174)).setCell ⟨gb177, 1, none⟩ (.int .i64 t175)).heap[gb177]? = some (.cells #[.int .i64 t174, .int .i64 t175] 23 (0, 0))) := ⟨by (with_reducible repeat (first | refine blk_drewN ?_ _ | refine blk_drew ?_ | refine blk_alloc ?_ _)); refine blk_put (cs := #[.int .i64 t174, .int .i64 0]) ?_ 1 _ rfl; (with_reducible repeat (first | refine blk_drewN ?_ _ | refine blk_drew ?_ | refine blk_alloc ?_ _)); refine blk_put (cs := #[.int .i64 0, .int .i64 0]) ?_ 0 _ rfl; (with_reducible repeat (first | refine blk_drewN ?_ _ | refine blk_drew ?_ | refine blk_alloc ?_ _)); exact BK177.out⟩
           have n10_ : Aside0 (Below w.heap.size w ((w87.setCell ⟨gb177, 0, none⟩ (.int .i64 t174)).setCell ⟨gb177, 1, none⟩ (.int .i64 t175))) := ⟨by repeat (first | (with_reducible first | exact HB.out | apply below_alloc | apply pw_below_drewN | apply below_drew1 | refine below_set ?_ GE118.out | refine below_set ?_ GE119.out | refine below_set ?_ GE135.out | refine below_set ?_ GE151.out | refine below_set ?_ GE168.out | refine below_set ?_ GE177.out) | exact HB.out)⟩
           (try clear HO131)
           (try clear HO147)
           (try clear HO163)
           (try clear HO173)
           (try clear BK118)
           (try clear BK119)
           (try clear BK135)
           (try clear BK151)
           (try clear BK168)
           (try clear BK177)
           (try clear HB)
           generalize ((w87.setCell ⟨gb177, 0, none⟩ (.int .i64 t174)).setCell ⟨gb177, 1, none⟩ (.int .i64 t175)) = w94 at n0_ n1_ n2_ n3_ n4_ n5_ n6_ n7_ n8_ n9_ n10_ ⊢
           have HO131 := n0_
           have HO147 := n1_
           have HO163 := n2_
           have HO173 := n3_
           have BK118 := n4_
           have BK119 := n5_
           have BK135 := n6_
           have BK151 := n7_
           have BK168 := n8_
           have BK177 := n9_
           have HB := n10_
           clear n0_ n1_ n2_ n3_ n4_ n5_ n6_ n7_ n8_ n9_ n10_
           have n0_ := A_ (Kd.R_drew HO131.out)
           have n1_ := A_ (Kd.R_drew HO147.out)
           have n2_ := A_ (Kd.R_drew HO163.out)
           have n3_ := A_ (Kd.R_drew HO173.out)
           have n4_ := A_ (blk_drew BK118.out)
           have n5_ := A_ (blk_drew BK119.out)
           have n6_ := A_ (blk_drew BK135.out)
           have n7_ := A_ (blk_drew BK151.out)
           have n8_ := A_ (blk_drew BK168.out)
           have n9_ := A_ (blk_drew BK177.out)
           have n10_ := A_ (below_drew1 HB.out)
           clear HO131
           clear HO147
           clear HO163
           clear HO173
           clear BK118
           clear BK119
           clear BK135
           clear BK151
           clear BK168
           clear BK177
           clear HB
           have HO131 := n0_
           have HO147 := n1_
           have HO163 := n2_
           have HO173 := n3_
           have BK118 := n4_
           have BK119 := n5_
           have BK135 := n6_
           have BK151 := n7_
           have BK168 := n8_
           have BK177 := n9_
           have HB := n10_
           clear n0_ n1_ n2_ n3_ n4_ n5_ n6_ n7_ n8_ n9_ n10_
           refine start_ (n := 9) (S := fun w' => w'.cell? ⟨gb119, 0, none⟩ = some (.int .i64 t116) ∧ w'.cell? ⟨gb119, 1, none⟩ = some (.int .i64 0)) (ds := []) #[false, false, false, false, false, false, false, false, false] (by kernel_rfl) rfl rfl ⟨(blk_cell BK119.out 0).trans rfl, (blk_cell BK119.out 1).trans rfl⟩ (fun hHeld => ?_); refine with_tabW cottonpadlaw04_BurnExamples.tab10 cottonpadlaw04_BurnExamples.bits10 (fun HT_ HW_ => ?_)
           generalize w94.drew = w95 at HO131 HO147 HO163 HO173 BK118 BK119 BK135 BK151 BK168 BK177 HB hHeld ⊢
           refine take_ (i := 0) (N := some 71) (v := ?_) (a' := ?_) #[true, false, false, false, false, false, false, false, false] rfl rfl (take_ofW HT_.out HW_.out (by kernel_rfl)) (fun _ _ _ h => h) (Or.inl ⟨by rfl, ?_⟩) hHeld ?_ ?_
           rotate_left
           ·
            rintro w' ⟨s0, s1⟩
            go_simp
            with_reducible rfl
           rotate_left
           ·
            simp only [Act.put, sT_, s0_, sS_, i64_w, i32_w]
            rfl
           refine join_ (σ := Value × Nat) 2 #[true, true, true, true, true, true, true, false, false] (fun s_ => [(72, s_.1), (73, .tuple #[.agg #[.int .i64 t181, .int .i64 t182], .int .i64 t183]), (12, .pointer (some ⟨s_.2, 0, none⟩)), (70, .tuple #[.agg #[.int .i64 t181, .int .i64 t182], .int .i64 t183]), (74, .agg #[.int .i64 t181, .int .i64 t182]), (75, .int .i64 t183)]) (fun s_ w' => (w'.cell? ⟨gb119, 0, none⟩ = some (.int .i64 t116) ∧ w'.cell? ⟨gb119, 1, none⟩ = some (.int .i64 0)) ∧ (Kd.R (Kd.int .i64) 3 w' w.heap.size (fun k_ => some k_ ≠ (.slice Ao66 t145.length co66 : Value).ownBlock ∧ some k_ ≠ (.slice Ao75 t161.length co75 : Value).ownBlock ∧ some k_ ≠ (.slice Ao85 t171.length co85 : Value).ownBlock ∧ some k_ ≠ (s_.1 : Value).ownBlock) (.slice Ao58 t129.length co58) t129) ∧ (Kd.R (Kd.int .i64) 3 w' w.heap.size (fun k_ => some k_ ≠ (.slice Ao58 t129.length co58 : Value).ownBlock ∧ some k_ ≠ (.slice Ao75 t161.length co75 : Value).ownBlock ∧ some k_ ≠ (.slice Ao85 t171.length co85 : Value).ownBlock ∧ some k_ ≠ (s_.1 : Value).ownBlock) (.slice Ao66 t145.length co66) t145) ∧ (Kd.R (Kd.int .i64) 3 w' w.heap.size (fun k_ => some k_ ≠ (.slice Ao58 t129.length co58 : Value).ownBlock ∧ some k_ ≠ (.slice Ao66 t145.length co66 : Value).ownBlock ∧ some k_ ≠ (.slice Ao85 t171.length co85 : Value).ownBlock ∧ some k_ ≠ (s_.1 : Value).ownBlock) (.slice Ao75 t161.length co75) t161) ∧ (Kd.R (Kd.int .i64) 3 w' w.heap.size (fun k_ => some k_ ≠ (.slice Ao58 t129.length co58 : Value).ownBlock ∧ some k_ ≠ (.slice Ao66 t145.length co66 : Value).ownBlock ∧ some k_ ≠ (.slice Ao75 t161.length co75 : Value).ownBlock ∧ some k_ ≠ (s_.1 : Value).ownBlock) (.slice Ao85 t171.length co85) t171) ∧ (Kd.R (Kd.int .i64) 3 w' w.heap.size (fun k_ => some k_ ≠ (.slice Ao58 t129.length co58 : Value).ownBlock ∧ some k_ ≠ (.slice Ao66 t145.length co66 : Value).ownBlock ∧ some k_ ≠ (.slice Ao75 t161.length co75 : Value).ownBlock ∧ some k_ ≠ (.slice Ao85 t171.length co85 : Value).ownBlock) s_.1 t178) ∧ (w'.heap[gb118]? = some (.cells #[.int .i64 t107, .int .i64 t108, .int .i64 t109, .int .i64 t110, .int .i64 t111, .int .i64 t112, .int .i64 t113, .int .i64 31, .int .i64 t115] 25 (0, 0))) ∧ (w'.heap[gb119]? = some (.cells #[.int .i64 t116, .int .i64 0] 48 (0, 0))) ∧ (w'.heap[gb135]? = some (.cells #[.int .i64 t132, .int .i64 t133] 23 (0, 0))) ∧ (w'.heap[gb151]? = some (.cells #[.int .i64 t148, .int .i64 t149] 23 (0, 0))) ∧ (w'.heap[gb168]? = some (.cells #[.int .i64 t164, .int .i64 t165] 23 (0, 0))) ∧ (w'.heap[gb177]? = some (.cells #[.int .i64 t174, .int .i64 t175] 23 (0, 0))) ∧ (w'.heap[s_.2]? = some (.cells #[.int .i64 0, .int .i64 0] 23 (0, 0))) ∧ (w.heap.size ≤ s_.2) ∧ (w.heap.size ≤ s_.2) ∧ (gb118 ≠ s_.2) ∧ (s_.2 ≠ gb118) ∧ (gb119 ≠ s_.2) ∧ (s_.2 ≠ gb119) ∧ (gb135 ≠ s_.2) ∧ (s_.2 ≠ gb135) ∧ (gb151 ≠ s_.2) ∧ (s_.2 ≠ gb151) ∧ (gb168 ≠ s_.2) ∧ (s_.2 ≠ gb168) ∧ (gb177 ≠ s_.2) ∧ (s_.2 ≠ gb177) ∧ (Below w.heap.size w w')) ?_ ?_
           rotate_left
           ·
            intro hCont
            refine two_ (i := 1) (j := 6) (Ni := some 72) (Nj := some 12) #[true, true, false, false, false, false, false, false, false] #[true, false, false, false, false, false, true, false, false] rfl rfl rfl rfl (two_of HT_.out (by kernel_rfl)) (by decide) (by decide) (fun K hK => ?_) (fun K hK => ?_)
            ·
             skip
             refine goes_ Tryd.func28 (by kernel_rfl) rfl #[] (by rfl) rfl rfl (by (try simp only [List.map_toArray, List.map_cons, List.map_nil]); first | done | rfl | (simp only [List.length_drop, List.length_take]; rfl)) ?_
             with_reducible refine (cottonpadlaw04_lights.calls  t178 _ A34.out).mono ?_
             rintro e w96 ⟨v179, rfl, ho0, hb⟩
             refine ⟨_, rfl, ?_⟩
             have n0_ := A_ (Kd.R_elder' (kr_ HO131.out) (Kd.R_base ho0) hb)
             have n1_ := A_ (Kd.R_elder' (kr_ HO147.out) (Kd.R_base ho0) hb)
             have n2_ := A_ (Kd.R_elder' (kr_ HO163.out) (Kd.R_base ho0) hb)
             have n3_ := A_ (Kd.R_elder' (kr_ HO173.out) (Kd.R_base ho0) hb)
             have n4_ := A_ (Kd.R_lower (Kd.R_new' (Kd.R_new' (Kd.R_new' (Kd.R_new' ho0 (Kd.R_lt (kr_ HO131.out))) (Kd.R_lt (kr_ HO147.out))) (Kd.R_lt (kr_ HO163.out))) (Kd.R_lt (kr_ HO173.out))) (below_size (by repeat (first | (with_reducible first | exact HB.out | apply below_alloc | apply pw_below_drewN | apply below_drew1 | refine below_set ?_ GE118.out | refine below_set ?_ GE119.out | refine below_set ?_ GE135.out | refine below_set ?_ GE151.out | refine below_set ?_ GE168.out | refine below_set ?_ GE177.out) | exact HB.out))))
             have n5_ := bb_ BK118.out hb
             have n6_ := bb_ BK119.out hb
             have n7_ := bb_ BK135.out hb
             have n8_ := bb_ BK151.out hb
             have n9_ := bb_ BK168.out hb
             have n10_ := bb_ BK177.out hb
             have n11_ := A_ (below_step (by repeat (first | (with_reducible first | exact HB.out | apply below_alloc | apply pw_below_drewN | apply below_drew1 | refine below_set ?_ GE118.out | refine below_set ?_ GE119.out | refine below_set ?_ GE135.out | refine below_set ?_ GE151.out | refine below_set ?_ GE168.out | refine below_set ?_ GE177.out) | exact HB.out)) hb)
             clear HO131
             clear HO147
             clear HO163
             clear HO173
             clear BK118
             clear BK119
             clear BK135
             clear BK151
             clear BK168
             clear BK177
             clear HB
             have HO131 := n0_
             have HO147 := n1_
             have HO163 := n2_
             have HO173 := n3_
             have HO180 := n4_
             have BK118 := n5_
             have BK119 := n6_
             have BK135 := n7_
             have BK151 := n8_
             have BK168 := n9_
             have BK177 := n10_
             have HB := n11_
             clear n0_ n1_ n2_ n3_ n4_ n5_ n6_ n7_ n8_ n9_ n10_ n11_
             (try clear hb)
             (try clear hb2)
             (try clear hk)
             (try clear hi)
             (try clear ho0)
             obtain ⟨Ao97, co97, eo97⟩ := Kd.R_slice HO180.out
             (first | subst eo97 | (injection eo97 with f1_ f2_ f3_; have f4_ := f1_.symm; have f5_ := f3_.symm; clear f1_ f2_ f3_; subst f4_; subst f5_))
             refine hK.out _ _ ⟨(blk_cell BK119.out 0).trans rfl, (blk_cell BK119.out 1).trans rfl⟩ (fun hHeld => ?_)
             clear hK K
             refine norm_ (a' := ?_) ?_ ?_
             rotate_left
             ·
              show Act.put _ (some 72) _ = _
              simp only [Act.put, sT_, s0_, sS_, i64_w, i32_w]
              rfl
             refine two_ (i := 2) (j := 6) (Ni := some 73) (Nj := some 12) #[true, true, true, false, false, false, false, false, false] #[true, true, false, false, false, false, true, false, false] rfl rfl rfl rfl (two_of HT_.out (by kernel_rfl)) (by decide) (by decide) (fun K hK => ?_) (fun K hK => ?_)
             ·
              skip
              refine goes_ Tryd.func29 (by kernel_rfl) rfl #[.agg #[.int .i64 t116, .int .i64 0], .slice Ao97 t178.length co97, .int .i64 0, .int .i64 1] (by rfl) rfl rfl (by (try simp only [List.map_toArray, List.map_cons, List.map_nil]); first | done | rfl | (simp only [List.length_drop, List.length_take]; rfl)) ?_
              with_reducible refine (burn_Smoke.calls kj0 t116 0 _ _ t178 0 1 t181 t182 t183 _ ?side1 ?side2 A35.out).mono ?_
              (case side1 => repeat (first | exact (Kd.R_reads' HO180.out).2.2 | (with_reducible refine Kd.C_alloc ?_ _) | (with_reducible refine Kd.C_drewN ?_ _) | (with_reducible refine Kd.C_drew ?_)))
              (case side2 => exact (Kd.R_reads' HO180.out).2.1)
              rintro e w98 ⟨rfl, hb⟩
              refine ⟨_, rfl, ?_⟩
              have n0_ := A_ (Kd.R_below (kr_ HO131.out) hb)
              have n1_ := A_ (Kd.R_below (kr_ HO147.out) hb)
              have n2_ := A_ (Kd.R_below (kr_ HO163.out) hb)
              have n3_ := A_ (Kd.R_below (kr_ HO173.out) hb)
              have n4_ := A_ (Kd.R_below (kr_ HO180.out) hb)
              have n5_ := bb_ BK118.out hb
              have n6_ := bb_ BK119.out hb
              have n7_ := bb_ BK135.out hb
              have n8_ := bb_ BK151.out hb
              have n9_ := bb_ BK168.out hb
              have n10_ := bb_ BK177.out hb
              have n11_ := A_ (below_step (by repeat (first | (with_reducible first | exact HB.out | apply below_alloc | apply pw_below_drewN | apply below_drew1 | refine below_set ?_ GE118.out | refine below_set ?_ GE119.out | refine below_set ?_ GE135.out | refine below_set ?_ GE151.out | refine below_set ?_ GE168.out | refine below_set ?_ GE177.out) | exact HB.out)) hb)
              clear HO131
              clear HO147
              clear HO163
              clear HO173
              clear HO180
              clear BK118
              clear BK119
              clear BK135
              clear BK151
              clear BK168
              clear BK177
              clear HB
              have HO131 := n0_
              have HO147 := n1_
              have HO163 := n2_
              have HO173 := n3_
              have HO180 := n4_
              have BK118 := n5_
              have BK119 := n6_
              have BK135 := n7_
              have BK151 := n8_
              have BK168 := n9_
              have BK177 := n10_
              have HB := n11_
              clear n0_ n1_ n2_ n3_ n4_ n5_ n6_ n7_ n8_ n9_ n10_ n11_
              (try clear hb)
              (try clear hb2)
              (try clear hk)
              (try clear hi)
              refine hK.out _ _ ⟨(blk_cell BK119.out 0).trans rfl, (blk_cell BK119.out 1).trans rfl⟩ (fun hHeld => ?_)
              clear hK K
              refine norm_ (a' := ?_) ?_ ?_
              rotate_left
              ·
               show Act.put _ (some 73) _ = _
               simp only [Act.put, sT_, s0_, sS_, i64_w, i32_w]
               rfl
              refine pure_ (i := 3) (N := some 70) (v := ?_) (a' := ?_) #[true, true, true, true, false, false, false, false, false] rfl rfl (any_of HT_.out (by kernel_rfl)) (fun _ _ _ h => h) (Or.inl ⟨by rfl, ?_⟩) ?_ ?_
              rotate_left
              ·
               intro w'
               go_simp
               with_reducible rfl
              rotate_left
              ·
               simp only [Act.put, sT_, s0_, sS_, i64_w, i32_w]
               rfl
              refine pure_ (i := 4) (N := some 74) (v := ?_) (a' := ?_) #[true, true, true, true, true, false, false, false, false] rfl rfl (any_of HT_.out (by kernel_rfl)) (fun _ _ _ h => h) (Or.inl ⟨by rfl, ?_⟩) ?_ ?_
              rotate_left
              ·
               intro w'
               go_simp
               with_reducible rfl
              rotate_left
              ·
               simp only [Act.put, sT_, s0_, sS_, i64_w, i32_w]
               rfl
              refine pure_ (i := 5) (N := some 75) (v := ?_) (a' := ?_) #[true, true, true, true, true, true, false, false, false] rfl rfl (any_of HT_.out (by kernel_rfl)) (fun _ _ _ h => h) (Or.inl ⟨by rfl, ?_⟩) ?_ ?_
              rotate_left
              ·
               intro w'
               go_simp
               with_reducible rfl
              rotate_left
              ·
               simp only [Act.put, sT_, s0_, sS_, i64_w, i32_w]
               rfl
              refine one_ (i := 6) (N := some 12) #[true, true, true, true, true, true, true, false, false] rfl rfl (one_of HT_.out (by kernel_rfl)) (by decide) (fun K hK => ?_)
              refine box_step ?hg (N := 12) ?hd (cs := #[.int .i64 0, .int .i64 0]) (t := 23) ?hr ?_; (case hd => rfl); (case hg => rfl); (case hr => first | (go_simp; done) | (go_simp; rfl))
              intro gb184 hg w99 hbox hb
              have n0_ := A_ (Kd.R_below (kr_ HO131.out) hb)
              have n1_ := A_ (Kd.R_below (kr_ HO147.out) hb)
              have n2_ := A_ (Kd.R_below (kr_ HO163.out) hb)
              have n3_ := A_ (Kd.R_below (kr_ HO173.out) hb)
              have n4_ := A_ (Kd.R_below (kr_ HO180.out) hb)
              have n5_ := bb_ BK118.out hb
              have n6_ := bb_ BK119.out hb
              have n7_ := bb_ BK135.out hb
              have n8_ := bb_ BK151.out hb
              have n9_ := bb_ BK168.out hb
              have n10_ := bb_ BK177.out hb
              have n11_ := A_ (below_step (by repeat (first | (with_reducible first | exact HB.out | apply below_alloc | apply pw_below_drewN | apply below_drew1 | refine below_set ?_ GE118.out | refine below_set ?_ GE119.out | refine below_set ?_ GE135.out | refine below_set ?_ GE151.out | refine below_set ?_ GE168.out | refine below_set ?_ GE177.out) | exact HB.out)) hb)
              have n12_ := A_ (hbox)
              have n13_ := A_ ((by rw [hg]; exact (below_size (by repeat (first | (with_reducible first | exact HB.out | apply below_alloc | apply pw_below_drewN | apply below_drew1 | refine below_set ?_ GE118.out | refine below_set ?_ GE119.out | refine below_set ?_ GE135.out | refine below_set ?_ GE151.out | refine below_set ?_ GE168.out | refine below_set ?_ GE177.out) | exact HB.out))) : w.heap.size ≤ gb184))
              have n14_ := A_ ((by rw [hg]; exact (below_size (by repeat (first | (with_reducible first | exact HB.out | apply below_alloc | apply pw_below_drewN | apply below_drew1 | refine below_set ?_ GE118.out | refine below_set ?_ GE119.out | refine below_set ?_ GE135.out | refine below_set ?_ GE151.out | refine below_set ?_ GE168.out | refine below_set ?_ GE177.out) | exact HB.out))) : w.heap.size ≤ gb184))
              have n15_ := A_ ((by rw [hg]; exact Nat.ne_of_lt (blk_lt (g := gb118) (o := .cells #[.int .i64 t107, .int .i64 t108, .int .i64 t109, .int .i64 t110, .int .i64 t111, .int .i64 t112, .int .i64 t113, .int .i64 31, .int .i64 t115] 25 (0, 0)) (bk_ BK118.out)) : gb118 ≠ gb184))
              have n16_ := A_ ((by rw [hg]; exact Nat.ne_of_gt (blk_lt (g := gb118) (o := .cells #[.int .i64 t107, .int .i64 t108, .int .i64 t109, .int .i64 t110, .int .i64 t111, .int .i64 t112, .int .i64 t113, .int .i64 31, .int .i64 t115] 25 (0, 0)) (bk_ BK118.out)) : gb184 ≠ gb118))
              have n17_ := A_ ((by rw [hg]; exact Nat.ne_of_lt (blk_lt (g := gb119) (o := .cells #[.int .i64 t116, .int .i64 0] 48 (0, 0)) (bk_ BK119.out)) : gb119 ≠ gb184))
              have n18_ := A_ ((by rw [hg]; exact Nat.ne_of_gt (blk_lt (g := gb119) (o := .cells #[.int .i64 t116, .int .i64 0] 48 (0, 0)) (bk_ BK119.out)) : gb184 ≠ gb119))
              have n19_ := A_ ((by rw [hg]; exact Nat.ne_of_lt (blk_lt (g := gb135) (o := .cells #[.int .i64 t132, .int .i64 t133] 23 (0, 0)) (bk_ BK135.out)) : gb135 ≠ gb184))
              have n20_ := A_ ((by rw [hg]; exact Nat.ne_of_gt (blk_lt (g := gb135) (o := .cells #[.int .i64 t132, .int .i64 t133] 23 (0, 0)) (bk_ BK135.out)) : gb184 ≠ gb135))
              have n21_ := A_ ((by rw [hg]; exact Nat.ne_of_lt (blk_lt (g := gb151) (o := .cells #[.int .i64 t148, .int .i64 t149] 23 (0, 0)) (bk_ BK151.out)) : gb151 ≠ gb184))
              have n22_ := A_ ((by rw [hg]; exact Nat.ne_of_gt (blk_lt (g := gb151) (o := .cells #[.int .i64 t148, .int .i64 t149] 23 (0, 0)) (bk_ BK151.out)) : gb184 ≠ gb151))
              have n23_ := A_ ((by rw [hg]; exact Nat.ne_of_lt (blk_lt (g := gb168) (o := .cells #[.int .i64 t164, .int .i64 t165] 23 (0, 0)) (bk_ BK168.out)) : gb168 ≠ gb184))
              have n24_ := A_ ((by rw [hg]; exact Nat.ne_of_gt (blk_lt (g := gb168) (o := .cells #[.int .i64 t164, .int .i64 t165] 23 (0, 0)) (bk_ BK168.out)) : gb184 ≠ gb168))
              have n25_ := A_ ((by rw [hg]; exact Nat.ne_of_lt (blk_lt (g := gb177) (o := .cells #[.int .i64 t174, .int .i64 t175] 23 (0, 0)) (bk_ BK177.out)) : gb177 ≠ gb184))
              have n26_ := A_ ((by rw [hg]; exact Nat.ne_of_gt (blk_lt (g := gb177) (o := .cells #[.int .i64 t174, .int .i64 t175] 23 (0, 0)) (bk_ BK177.out)) : gb184 ≠ gb177))
              clear HO131
              clear HO147
              clear HO163
              clear HO173
              clear HO180
              clear BK118
              clear BK119
              clear BK135
              clear BK151
              clear BK168
              clear BK177
              clear HB
              have HO131 := n0_
              have HO147 := n1_
              have HO163 := n2_
              have HO173 := n3_
              have HO180 := n4_
              have BK118 := n5_
              have BK119 := n6_
              have BK135 := n7_
              have BK151 := n8_
              have BK168 := n9_
              have BK177 := n10_
              have HB := n11_
              have BK184 := n12_
              have GW184 := n13_
              have GE184 := n14_
              have NB118_184 := n15_
              have NB184_118 := n16_
              have NB119_184 := n17_
              have NB184_119 := n18_
              have NB135_184 := n19_
              have NB184_135 := n20_
              have NB151_184 := n21_
              have NB184_151 := n22_
              have NB168_184 := n23_
              have NB184_168 := n24_
              have NB177_184 := n25_
              have NB184_177 := n26_
              clear n0_ n1_ n2_ n3_ n4_ n5_ n6_ n7_ n8_ n9_ n10_ n11_ n12_ n13_ n14_ n15_ n16_ n17_ n18_ n19_ n20_ n21_ n22_ n23_ n24_ n25_ n26_
              clear hb hbox hg
              refine hK.out _ _ ⟨(blk_cell BK119.out 0).trans rfl, (blk_cell BK119.out 1).trans rfl⟩ (fun hHeld => ?_)
              clear hK K
              refine norm_ (a' := ?_) ?_ ?_
              rotate_left
              ·
               show Act.put _ (some 12) _ = _
               simp only [Act.put, sT_, s0_, sS_, i64_w, i32_w]
               rfl
              exact norm_ (by simp only [putAll, Act.put, List.setIfInBounds_toArray, List.set_cons_zero, List.set_cons_succ]) (hCont (.slice Ao97 t178.length co97, gb184) _ ⟨hHeld, (by (with_reducible repeat (first | apply Kd.R_alloc | apply Kd.R_drewN | apply Kd.R_drew)); exact Kd.R_mono HO131.out (fun _ hk => ⟨hk.1.1, ⟨hk.1.2.1, ⟨hk.1.2.2, hk.2⟩⟩⟩)), (by (with_reducible repeat (first | apply Kd.R_alloc | apply Kd.R_drewN | apply Kd.R_drew)); exact Kd.R_mono HO147.out (fun _ hk => ⟨hk.1.1, ⟨hk.1.2.1, ⟨hk.1.2.2, hk.2⟩⟩⟩)), (by (with_reducible repeat (first | apply Kd.R_alloc | apply Kd.R_drewN | apply Kd.R_drew)); exact Kd.R_mono HO163.out (fun _ hk => ⟨hk.1.1, ⟨hk.1.2.1, ⟨hk.1.2.2, hk.2⟩⟩⟩)), (by (with_reducible repeat (first | apply Kd.R_alloc | apply Kd.R_drewN | apply Kd.R_drew)); exact Kd.R_mono HO173.out (fun _ hk => ⟨hk.1.1, ⟨hk.1.2.1, ⟨hk.1.2.2, hk.2⟩⟩⟩)), (by (with_reducible repeat (first | apply Kd.R_alloc | apply Kd.R_drewN | apply Kd.R_drew)); exact Kd.R_mono HO180.out (fun _ hk => ⟨hk.1.1.1.2, ⟨hk.1.1.2, ⟨hk.1.2, hk.2⟩⟩⟩)), (bk_ BK118.out), (bk_ BK119.out), (bk_ BK135.out), (bk_ BK151.out), (bk_ BK168.out), (bk_ BK177.out), (bk_ BK184.out), GW184.out, GE184.out, NB118_184.out, NB184_118.out, NB119_184.out, NB184_119.out, NB135_184.out, NB184_135.out, NB151_184.out, NB184_151.out, NB168_184.out, NB184_168.out, NB177_184.out, NB184_177.out, (by repeat (first | (with_reducible first | exact HB.out | apply below_alloc | apply pw_below_drewN | apply below_drew1 | refine below_set ?_ GE118.out | refine below_set ?_ GE119.out | refine below_set ?_ GE135.out | refine below_set ?_ GE151.out | refine below_set ?_ GE168.out | refine below_set ?_ GE177.out | refine below_set ?_ GE184.out) | exact HB.out))⟩)
             ·
              skip
              refine box_step ?hg (N := 12) ?hd (cs := #[.int .i64 0, .int .i64 0]) (t := 23) ?hr ?_; (case hd => rfl); (case hg => rfl); (case hr => first | (go_simp; done) | (go_simp; rfl))
              intro gb184 hg w97 hbox hb
              have n0_ := A_ (Kd.R_below (kr_ HO131.out) hb)
              have n1_ := A_ (Kd.R_below (kr_ HO147.out) hb)
              have n2_ := A_ (Kd.R_below (kr_ HO163.out) hb)
              have n3_ := A_ (Kd.R_below (kr_ HO173.out) hb)
              have n4_ := A_ (Kd.R_below (kr_ HO180.out) hb)
              have n5_ := bb_ BK118.out hb
              have n6_ := bb_ BK119.out hb
              have n7_ := bb_ BK135.out hb
              have n8_ := bb_ BK151.out hb
              have n9_ := bb_ BK168.out hb
              have n10_ := bb_ BK177.out hb
              have n11_ := A_ (below_step (by repeat (first | (with_reducible first | exact HB.out | apply below_alloc | apply pw_below_drewN | apply below_drew1 | refine below_set ?_ GE118.out | refine below_set ?_ GE119.out | refine below_set ?_ GE135.out | refine below_set ?_ GE151.out | refine below_set ?_ GE168.out | refine below_set ?_ GE177.out) | exact HB.out)) hb)
              have n12_ := A_ (hbox)
              have n13_ := A_ ((by rw [hg]; exact (below_size (by repeat (first | (with_reducible first | exact HB.out | apply below_alloc | apply pw_below_drewN | apply below_drew1 | refine below_set ?_ GE118.out | refine below_set ?_ GE119.out | refine below_set ?_ GE135.out | refine below_set ?_ GE151.out | refine below_set ?_ GE168.out | refine below_set ?_ GE177.out) | exact HB.out))) : w.heap.size ≤ gb184))
              have n14_ := A_ ((by rw [hg]; exact (below_size (by repeat (first | (with_reducible first | exact HB.out | apply below_alloc | apply pw_below_drewN | apply below_drew1 | refine below_set ?_ GE118.out | refine below_set ?_ GE119.out | refine below_set ?_ GE135.out | refine below_set ?_ GE151.out | refine below_set ?_ GE168.out | refine below_set ?_ GE177.out) | exact HB.out))) : w.heap.size ≤ gb184))
              have n15_ := A_ ((by rw [hg]; exact Nat.ne_of_lt (blk_lt (g := gb118) (o := .cells #[.int .i64 t107, .int .i64 t108, .int .i64 t109, .int .i64 t110, .int .i64 t111, .int .i64 t112, .int .i64 t113, .int .i64 31, .int .i64 t115] 25 (0, 0)) (bk_ BK118.out)) : gb118 ≠ gb184))
              have n16_ := A_ ((by rw [hg]; exact Nat.ne_of_gt (blk_lt (g := gb118) (o := .cells #[.int .i64 t107, .int .i64 t108, .int .i64 t109, .int .i64 t110, .int .i64 t111, .int .i64 t112, .int .i64 t113, .int .i64 31, .int .i64 t115] 25 (0, 0)) (bk_ BK118.out)) : gb184 ≠ gb118))
              have n17_ := A_ ((by rw [hg]; exact Nat.ne_of_lt (blk_lt (g := gb119) (o := .cells #[.int .i64 t116, .int .i64 0] 48 (0, 0)) (bk_ BK119.out)) : gb119 ≠ gb184))
              have n18_ := A_ ((by rw [hg]; exact Nat.ne_of_gt (blk_lt (g := gb119) (o := .cells #[.int .i64 t116, .int .i64 0] 48 (0, 0)) (bk_ BK119.out)) : gb184 ≠ gb119))
              have n19_ := A_ ((by rw [hg]; exact Nat.ne_of_lt (blk_lt (g := gb135) (o := .cells #[.int .i64 t132, .int .i64 t133] 23 (0, 0)) (bk_ BK135.out)) : gb135 ≠ gb184))
              have n20_ := A_ ((by rw [hg]; exact Nat.ne_of_gt (blk_lt (g := gb135) (o := .cells #[.int .i64 t132, .int .i64 t133] 23 (0, 0)) (bk_ BK135.out)) : gb184 ≠ gb135))
              have n21_ := A_ ((by rw [hg]; exact Nat.ne_of_lt (blk_lt (g := gb151) (o := .cells #[.int .i64 t148, .int .i64 t149] 23 (0, 0)) (bk_ BK151.out)) : gb151 ≠ gb184))
              have n22_ := A_ ((by rw [hg]; exact Nat.ne_of_gt (blk_lt (g := gb151) (o := .cells #[.int .i64 t148, .int .i64 t149] 23 (0, 0)) (bk_ BK151.out)) : gb184 ≠ gb151))
              have n23_ := A_ ((by rw [hg]; exact Nat.ne_of_lt (blk_lt (g := gb168) (o := .cells #[.int .i64 t164, .int .i64 t165] 23 (0, 0)) (bk_ BK168.out)) : gb168 ≠ gb184))
              have n24_ := A_ ((by rw [hg]; exact Nat.ne_of_gt (blk_lt (g := gb168) (o := .cells #[.int .i64 t164, .int .i64 t165] 23 (0, 0)) (bk_ BK168.out)) : gb184 ≠ gb168))
              have n25_ := A_ ((by rw [hg]; exact Nat.ne_of_lt (blk_lt (g := gb177) (o := .cells #[.int .i64 t174, .int .i64 t175] 23 (0, 0)) (bk_ BK177.out)) : gb177 ≠ gb184))
              have n26_ := A_ ((by rw [hg]; exact Nat.ne_of_gt (blk_lt (g := gb177) (o := .cells #[.int .i64 t174, .int .i64 t175] 23 (0, 0)) (bk_ BK177.out)) : gb184 ≠ gb177))
              clear HO131
              clear HO147
              clear HO163
              clear HO173
              clear HO180
              clear BK118
              clear BK119
              clear BK135
              clear BK151
              clear BK168
              clear BK177
              clear HB
              have HO131 := n0_
              have HO147 := n1_
              have HO163 := n2_
              have HO173 := n3_
              have HO180 := n4_
              have BK118 := n5_
              have BK119 := n6_
              have BK135 := n7_
              have BK151 := n8_
              have BK168 := n9_
              have BK177 := n10_
              have HB := n11_
              have BK184 := n12_
              have GW184 := n13_
              have GE184 := n14_
              have NB118_184 := n15_
              have NB184_118 := n16_
              have NB119_184 := n17_
              have NB184_119 := n18_
              have NB135_184 := n19_
              have NB184_135 := n20_
              have NB151_184 := n21_
              have NB184_151 := n22_
              have NB168_184 := n23_
              have NB184_168 := n24_
              have NB177_184 := n25_
              have NB184_177 := n26_
              clear n0_ n1_ n2_ n3_ n4_ n5_ n6_ n7_ n8_ n9_ n10_ n11_ n12_ n13_ n14_ n15_ n16_ n17_ n18_ n19_ n20_ n21_ n22_ n23_ n24_ n25_ n26_
              clear hb hbox hg
              obtain ⟨Ao98, co98, eo98⟩ := Kd.R_slice HO180.out
              (first | subst eo98 | (injection eo98 with f1_ f2_ f3_; have f4_ := f1_.symm; have f5_ := f3_.symm; clear f1_ f2_ f3_; subst f4_; subst f5_))
              refine hK.out _ _ ⟨(blk_cell BK119.out 0).trans rfl, (blk_cell BK119.out 1).trans rfl⟩ (fun hHeld => ?_)
              clear hK K
              refine norm_ (a' := ?_) ?_ ?_
              rotate_left
              ·
               show Act.put _ (some 12) _ = _
               simp only [Act.put, sT_, s0_, sS_, i64_w, i32_w]
               rfl
              refine one_ (i := 2) (N := some 73) #[true, true, true, false, false, false, true, false, false] rfl rfl (one_of HT_.out (by kernel_rfl)) (by decide) (fun K hK => ?_)
              refine goes_ Tryd.func29 (by kernel_rfl) rfl #[.agg #[.int .i64 t116, .int .i64 0], .slice Ao98 t178.length co98, .int .i64 0, .int .i64 1] (by rfl) rfl rfl (by (try simp only [List.map_toArray, List.map_cons, List.map_nil]); first | done | rfl | (simp only [List.length_drop, List.length_take]; rfl)) ?_
              with_reducible refine (burn_Smoke.calls kj0 t116 0 _ _ t178 0 1 t181 t182 t183 _ ?side1 ?side2 A35.out).mono ?_
              (case side1 => repeat (first | exact (Kd.R_reads' HO180.out).2.2 | (with_reducible refine Kd.C_alloc ?_ _) | (with_reducible refine Kd.C_drewN ?_ _) | (with_reducible refine Kd.C_drew ?_)))
              (case side2 => exact (Kd.R_reads' HO180.out).2.1)
              rintro e w99 ⟨rfl, hb⟩
              refine ⟨_, rfl, ?_⟩
              have n0_ := A_ (Kd.R_below (kr_ HO131.out) hb)
              have n1_ := A_ (Kd.R_below (kr_ HO147.out) hb)
              have n2_ := A_ (Kd.R_below (kr_ HO163.out) hb)
              have n3_ := A_ (Kd.R_below (kr_ HO173.out) hb)
              have n4_ := A_ (Kd.R_below (kr_ HO180.out) hb)
              have n5_ := bb_ BK118.out hb
              have n6_ := bb_ BK119.out hb
              have n7_ := bb_ BK135.out hb
              have n8_ := bb_ BK151.out hb
              have n9_ := bb_ BK168.out hb
              have n10_ := bb_ BK177.out hb
              have n11_ := bb_ BK184.out hb
              have n12_ := A_ (below_step (by repeat (first | (with_reducible first | exact HB.out | apply below_alloc | apply pw_below_drewN | apply below_drew1 | refine below_set ?_ GE118.out | refine below_set ?_ GE119.out | refine below_set ?_ GE135.out | refine below_set ?_ GE151.out | refine below_set ?_ GE168.out | refine below_set ?_ GE177.out | refine below_set ?_ GE184.out) | exact HB.out)) hb)
              clear HO131
              clear HO147
              clear HO163
              clear HO173
              clear HO180
              clear BK118
              clear BK119
              clear BK135
              clear BK151
              clear BK168
              clear BK177
              clear BK184
              clear HB
              have HO131 := n0_
              have HO147 := n1_
              have HO163 := n2_
              have HO173 := n3_
              have HO180 := n4_
              have BK118 := n5_
              have BK119 := n6_
              have BK135 := n7_
              have BK151 := n8_
              have BK168 := n9_
              have BK177 := n10_
              have BK184 := n11_
              have HB := n12_
              clear n0_ n1_ n2_ n3_ n4_ n5_ n6_ n7_ n8_ n9_ n10_ n11_ n12_
              (try clear hb)
              (try clear hb2)
              (try clear hk)
              (try clear hi)
              refine hK.out _ _ ⟨(blk_cell BK119.out 0).trans rfl, (blk_cell BK119.out 1).trans rfl⟩ (fun hHeld => ?_)
              clear hK K
              refine norm_ (a' := ?_) ?_ ?_
              rotate_left
              ·
               show Act.put _ (some 73) _ = _
               simp only [Act.put, sT_, s0_, sS_, i64_w, i32_w]
               rfl
              refine pure_ (i := 3) (N := some 70) (v := ?_) (a' := ?_) #[true, true, true, true, false, false, true, false, false] rfl rfl (any_of HT_.out (by kernel_rfl)) (fun _ _ _ h => h) (Or.inl ⟨by rfl, ?_⟩) ?_ ?_
              rotate_left
              ·
               intro w'
               go_simp
               with_reducible rfl
              rotate_left
              ·
               simp only [Act.put, sT_, s0_, sS_, i64_w, i32_w]
               rfl
              refine pure_ (i := 4) (N := some 74) (v := ?_) (a' := ?_) #[true, true, true, true, true, false, true, false, false] rfl rfl (any_of HT_.out (by kernel_rfl)) (fun _ _ _ h => h) (Or.inl ⟨by rfl, ?_⟩) ?_ ?_
              rotate_left
              ·
               intro w'
               go_simp
               with_reducible rfl
              rotate_left
              ·
               simp only [Act.put, sT_, s0_, sS_, i64_w, i32_w]
               rfl
              refine pure_ (i := 5) (N := some 75) (v := ?_) (a' := ?_) #[true, true, true, true, true, true, true, false, false] rfl rfl (any_of HT_.out (by kernel_rfl)) (fun _ _ _ h => h) (Or.inl ⟨by rfl, ?_⟩) ?_ ?_
              rotate_left
              ·
               intro w'
               go_simp
               with_reducible rfl
              rotate_left
              ·
               simp only [Act.put, sT_, s0_, sS_, i64_w, i32_w]
               rfl
              exact norm_ (by simp only [putAll, Act.put, List.setIfInBounds_toArray, List.set_cons_zero, List.set_cons_succ]) (hCont (.slice Ao98 t178.length co98, gb184) _ ⟨hHeld, (by (with_reducible repeat (first | apply Kd.R_alloc | apply Kd.R_drewN | apply Kd.R_drew)); exact Kd.R_mono HO131.out (fun _ hk => ⟨hk.1.1, ⟨hk.1.2.1, ⟨hk.1.2.2, hk.2⟩⟩⟩)), (by (with_reducible repeat (first | apply Kd.R_alloc | apply Kd.R_drewN | apply Kd.R_drew)); exact Kd.R_mono HO147.out (fun _ hk => ⟨hk.1.1, ⟨hk.1.2.1, ⟨hk.1.2.2, hk.2⟩⟩⟩)), (by (with_reducible repeat (first | apply Kd.R_alloc | apply Kd.R_drewN | apply Kd.R_drew)); exact Kd.R_mono HO163.out (fun _ hk => ⟨hk.1.1, ⟨hk.1.2.1, ⟨hk.1.2.2, hk.2⟩⟩⟩)), (by (with_reducible repeat (first | apply Kd.R_alloc | apply Kd.R_drewN | apply Kd.R_drew)); exact Kd.R_mono HO173.out (fun _ hk => ⟨hk.1.1, ⟨hk.1.2.1, ⟨hk.1.2.2, hk.2⟩⟩⟩)), (by (with_reducible repeat (first | apply Kd.R_alloc | apply Kd.R_drewN | apply Kd.R_drew)); exact Kd.R_mono HO180.out (fun _ hk => ⟨hk.1.1.1.2, ⟨hk.1.1.2, ⟨hk.1.2, hk.2⟩⟩⟩)), (bk_ BK118.out), (bk_ BK119.out), (bk_ BK135.out), (bk_ BK151.out), (bk_ BK168.out), (bk_ BK177.out), (bk_ BK184.out), GW184.out, GE184.out, NB118_184.out, NB184_118.out, NB119_184.out, NB184_119.out, NB135_184.out, NB184_135.out, NB151_184.out, NB184_151.out, NB168_184.out, NB184_168.out, NB177_184.out, NB184_177.out, (by repeat (first | (with_reducible first | exact HB.out | apply below_alloc | apply pw_below_drewN | apply below_drew1 | refine below_set ?_ GE118.out | refine below_set ?_ GE119.out | refine below_set ?_ GE135.out | refine below_set ?_ GE151.out | refine below_set ?_ GE168.out | refine below_set ?_ GE177.out | refine below_set ?_ GE184.out) | exact HB.out))⟩)
            ·
             skip
             refine box_step ?hg (N := 12) ?hd (cs := #[.int .i64 0, .int .i64 0]) (t := 23) ?hr ?_; (case hd => rfl); (case hg => rfl); (case hr => first | (go_simp; done) | (go_simp; rfl))
             intro gb184 hg w96 hbox hb
             have n0_ := A_ (Kd.R_below (kr_ HO131.out) hb)
             have n1_ := A_ (Kd.R_below (kr_ HO147.out) hb)
             have n2_ := A_ (Kd.R_below (kr_ HO163.out) hb)
             have n3_ := A_ (Kd.R_below (kr_ HO173.out) hb)
             have n4_ := bb_ BK118.out hb
             have n5_ := bb_ BK119.out hb
             have n6_ := bb_ BK135.out hb
             have n7_ := bb_ BK151.out hb
             have n8_ := bb_ BK168.out hb
             have n9_ := bb_ BK177.out hb
             have n10_ := A_ (below_step (by repeat (first | (with_reducible first | exact HB.out | apply below_alloc | apply pw_below_drewN | apply below_drew1 | refine below_set ?_ GE118.out | refine below_set ?_ GE119.out | refine below_set ?_ GE135.out | refine below_set ?_ GE151.out | refine below_set ?_ GE168.out | refine below_set ?_ GE177.out) | exact HB.out)) hb)
             have n11_ := A_ (hbox)
             have n12_ := A_ ((by rw [hg]; exact (below_size (by repeat (first | (with_reducible first | exact HB.out | apply below_alloc | apply pw_below_drewN | apply below_drew1 | refine below_set ?_ GE118.out | refine below_set ?_ GE119.out | refine below_set ?_ GE135.out | refine below_set ?_ GE151.out | refine below_set ?_ GE168.out | refine below_set ?_ GE177.out) | exact HB.out))) : w.heap.size ≤ gb184))
             have n13_ := A_ ((by rw [hg]; exact (below_size (by repeat (first | (with_reducible first | exact HB.out | apply below_alloc | apply pw_below_drewN | apply below_drew1 | refine below_set ?_ GE118.out | refine below_set ?_ GE119.out | refine below_set ?_ GE135.out | refine below_set ?_ GE151.out | refine below_set ?_ GE168.out | refine below_set ?_ GE177.out) | exact HB.out))) : w.heap.size ≤ gb184))
             have n14_ := A_ ((by rw [hg]; exact Nat.ne_of_lt (blk_lt (g := gb118) (o := .cells #[.int .i64 t107, .int .i64 t108, .int .i64 t109, .int .i64 t110, .int .i64 t111, .int .i64 t112, .int .i64 t113, .int .i64 31, .int .i64 t115] 25 (0, 0)) (bk_ BK118.out)) : gb118 ≠ gb184))
             have n15_ := A_ ((by rw [hg]; exact Nat.ne_of_gt (blk_lt (g := gb118) (o := .cells #[.int .i64 t107, .int .i64 t108, .int .i64 t109, .int .i64 t110, .int .i64 t111, .int .i64 t112, .int .i64 t113, .int .i64 31, .int .i64 t115] 25 (0, 0)) (bk_ BK118.out)) : gb184 ≠ gb118))
             have n16_ := A_ ((by rw [hg]; exact Nat.ne_of_lt (blk_lt (g := gb119) (o := .cells #[.int .i64 t116, .int .i64 0] 48 (0, 0)) (bk_ BK119.out)) : gb119 ≠ gb184))
             have n17_ := A_ ((by rw [hg]; exact Nat.ne_of_gt (blk_lt (g := gb119) (o := .cells #[.int .i64 t116, .int .i64 0] 48 (0, 0)) (bk_ BK119.out)) : gb184 ≠ gb119))
             have n18_ := A_ ((by rw [hg]; exact Nat.ne_of_lt (blk_lt (g := gb135) (o := .cells #[.int .i64 t132, .int .i64 t133] 23 (0, 0)) (bk_ BK135.out)) : gb135 ≠ gb184))
             have n19_ := A_ ((by rw [hg]; exact Nat.ne_of_gt (blk_lt (g := gb135) (o := .cells #[.int .i64 t132, .int .i64 t133] 23 (0, 0)) (bk_ BK135.out)) : gb184 ≠ gb135))
             have n20_ := A_ ((by rw [hg]; exact Nat.ne_of_lt (blk_lt (g := gb151) (o := .cells #[.int .i64 t148, .int .i64 t149] 23 (0, 0)) (bk_ BK151.out)) : gb151 ≠ gb184))
             have n21_ := A_ ((by rw [hg]; exact Nat.ne_of_gt (blk_lt (g := gb151) (o := .cells #[.int .i64 t148, .int .i64 t149] 23 (0, 0)) (bk_ BK151.out)) : gb184 ≠ gb151))
             have n22_ := A_ ((by rw [hg]; exact Nat.ne_of_lt (blk_lt (g := gb168) (o := .cells #[.int .i64 t164, .int .i64 t165] 23 (0, 0)) (bk_ BK168.out)) : gb168 ≠ gb184))
             have n23_ := A_ ((by rw [hg]; exact Nat.ne_of_gt (blk_lt (g := gb168) (o := .cells #[.int .i64 t164, .int .i64 t165] 23 (0, 0)) (bk_ BK168.out)) : gb184 ≠ gb168))
             have n24_ := A_ ((by rw [hg]; exact Nat.ne_of_lt (blk_lt (g := gb177) (o := .cells #[.int .i64 t174, .int .i64 t175] 23 (0, 0)) (bk_ BK177.out)) : gb177 ≠ gb184))
             have n25_ := A_ ((by rw [hg]; exact Nat.ne_of_gt (blk_lt (g := gb177) (o := .cells #[.int .i64 t174, .int .i64 t175] 23 (0, 0)) (bk_ BK177.out)) : gb184 ≠ gb177))
             clear HO131
             clear HO147
             clear HO163
             clear HO173
             clear BK118
             clear BK119
             clear BK135
             clear BK151
             clear BK168
             clear BK177
             clear HB
             have HO131 := n0_
             have HO147 := n1_
             have HO163 := n2_
             have HO173 := n3_
             have BK118 := n4_
             have BK119 := n5_
             have BK135 := n6_
             have BK151 := n7_
             have BK168 := n8_
             have BK177 := n9_
             have HB := n10_
             have BK184 := n11_
             have GW184 := n12_
             have GE184 := n13_
             have NB118_184 := n14_
             have NB184_118 := n15_
             have NB119_184 := n16_
             have NB184_119 := n17_
             have NB135_184 := n18_
             have NB184_135 := n19_
             have NB151_184 := n20_
             have NB184_151 := n21_
             have NB168_184 := n22_
             have NB184_168 := n23_
             have NB177_184 := n24_
             have NB184_177 := n25_
             clear n0_ n1_ n2_ n3_ n4_ n5_ n6_ n7_ n8_ n9_ n10_ n11_ n12_ n13_ n14_ n15_ n16_ n17_ n18_ n19_ n20_ n21_ n22_ n23_ n24_ n25_
             clear hb hbox hg
             refine hK.out _ _ ⟨(blk_cell BK119.out 0).trans rfl, (blk_cell BK119.out 1).trans rfl⟩ (fun hHeld => ?_)
             clear hK K
             refine norm_ (a' := ?_) ?_ ?_
             rotate_left
             ·
              show Act.put _ (some 12) _ = _
              simp only [Act.put, sT_, s0_, sS_, i64_w, i32_w]
              rfl
             refine one_ (i := 1) (N := some 72) #[true, true, false, false, false, false, true, false, false] rfl rfl (one_of HT_.out (by kernel_rfl)) (by decide) (fun K hK => ?_)
             refine goes_ Tryd.func28 (by kernel_rfl) rfl #[] (by rfl) rfl rfl (by (try simp only [List.map_toArray, List.map_cons, List.map_nil]); first | done | rfl | (simp only [List.length_drop, List.length_take]; rfl)) ?_
             with_reducible refine (cottonpadlaw04_lights.calls  t178 _ A34.out).mono ?_
             rintro e w97 ⟨v179, rfl, ho0, hb⟩
             refine ⟨_, rfl, ?_⟩
             have n0_ := A_ (Kd.R_elder' (kr_ HO131.out) (Kd.R_base ho0) hb)
             have n1_ := A_ (Kd.R_elder' (kr_ HO147.out) (Kd.R_base ho0) hb)
             have n2_ := A_ (Kd.R_elder' (kr_ HO163.out) (Kd.R_base ho0) hb)
             have n3_ := A_ (Kd.R_elder' (kr_ HO173.out) (Kd.R_base ho0) hb)
             have n4_ := A_ (Kd.R_lower (Kd.R_new' (Kd.R_new' (Kd.R_new' (Kd.R_new' ho0 (Kd.R_lt (kr_ HO131.out))) (Kd.R_lt (kr_ HO147.out))) (Kd.R_lt (kr_ HO163.out))) (Kd.R_lt (kr_ HO173.out))) (below_size (by repeat (first | (with_reducible first | exact HB.out | apply below_alloc | apply pw_below_drewN | apply below_drew1 | refine below_set ?_ GE118.out | refine below_set ?_ GE119.out | refine below_set ?_ GE135.out | refine below_set ?_ GE151.out | refine below_set ?_ GE168.out | refine below_set ?_ GE177.out | refine below_set ?_ GE184.out) | exact HB.out))))
             have n5_ := bb_ BK118.out hb
             have n6_ := bb_ BK119.out hb
             have n7_ := bb_ BK135.out hb
             have n8_ := bb_ BK151.out hb
             have n9_ := bb_ BK168.out hb
             have n10_ := bb_ BK177.out hb
             have n11_ := bb_ BK184.out hb
             have n12_ := A_ (below_step (by repeat (first | (with_reducible first | exact HB.out | apply below_alloc | apply pw_below_drewN | apply below_drew1 | refine below_set ?_ GE118.out | refine below_set ?_ GE119.out | refine below_set ?_ GE135.out | refine below_set ?_ GE151.out | refine below_set ?_ GE168.out | refine below_set ?_ GE177.out | refine below_set ?_ GE184.out) | exact HB.out)) hb)
             clear HO131
             clear HO147
             clear HO163
             clear HO173
             clear BK118
             clear BK119
             clear BK135
             clear BK151
             clear BK168
             clear BK177
             clear BK184
             clear HB
             have HO131 := n0_
             have HO147 := n1_
             have HO163 := n2_
             have HO173 := n3_
             have HO180 := n4_
             have BK118 := n5_
             have BK119 := n6_
             have BK135 := n7_
             have BK151 := n8_
             have BK168 := n9_
             have BK177 := n10_
             have BK184 := n11_
             have HB := n12_
             clear n0_ n1_ n2_ n3_ n4_ n5_ n6_ n7_ n8_ n9_ n10_ n11_ n12_
             (try clear hb)
             (try clear hb2)
             (try clear hk)
             (try clear hi)
             (try clear ho0)
             obtain ⟨Ao98, co98, eo98⟩ := Kd.R_slice HO180.out
             (first | subst eo98 | (injection eo98 with f1_ f2_ f3_; have f4_ := f1_.symm; have f5_ := f3_.symm; clear f1_ f2_ f3_; subst f4_; subst f5_))
             refine hK.out _ _ ⟨(blk_cell BK119.out 0).trans rfl, (blk_cell BK119.out 1).trans rfl⟩ (fun hHeld => ?_)
             clear hK K
             refine norm_ (a' := ?_) ?_ ?_
             rotate_left
             ·
              show Act.put _ (some 72) _ = _
              simp only [Act.put, sT_, s0_, sS_, i64_w, i32_w]
              rfl
             refine one_ (i := 2) (N := some 73) #[true, true, true, false, false, false, true, false, false] rfl rfl (one_of HT_.out (by kernel_rfl)) (by decide) (fun K hK => ?_)
             refine goes_ Tryd.func29 (by kernel_rfl) rfl #[.agg #[.int .i64 t116, .int .i64 0], .slice Ao98 t178.length co98, .int .i64 0, .int .i64 1] (by rfl) rfl rfl (by (try simp only [List.map_toArray, List.map_cons, List.map_nil]); first | done | rfl | (simp only [List.length_drop, List.length_take]; rfl)) ?_
             with_reducible refine (burn_Smoke.calls kj0 t116 0 _ _ t178 0 1 t181 t182 t183 _ ?side1 ?side2 A35.out).mono ?_
             (case side1 => repeat (first | exact (Kd.R_reads' HO180.out).2.2 | (with_reducible refine Kd.C_alloc ?_ _) | (with_reducible refine Kd.C_drewN ?_ _) | (with_reducible refine Kd.C_drew ?_)))
             (case side2 => exact (Kd.R_reads' HO180.out).2.1)
             rintro e w99 ⟨rfl, hb⟩
             refine ⟨_, rfl, ?_⟩
             have n0_ := A_ (Kd.R_below (kr_ HO131.out) hb)
             have n1_ := A_ (Kd.R_below (kr_ HO147.out) hb)
             have n2_ := A_ (Kd.R_below (kr_ HO163.out) hb)
             have n3_ := A_ (Kd.R_below (kr_ HO173.out) hb)
             have n4_ := A_ (Kd.R_below (kr_ HO180.out) hb)
             have n5_ := bb_ BK118.out hb
             have n6_ := bb_ BK119.out hb
             have n7_ := bb_ BK135.out hb
             have n8_ := bb_ BK151.out hb
             have n9_ := bb_ BK168.out hb
             have n10_ := bb_ BK177.out hb
             have n11_ := bb_ BK184.out hb
             have n12_ := A_ (below_step (by repeat (first | (with_reducible first | exact HB.out | apply below_alloc | apply pw_below_drewN | apply below_drew1 | refine below_set ?_ GE118.out | refine below_set ?_ GE119.out | refine below_set ?_ GE135.out | refine below_set ?_ GE151.out | refine below_set ?_ GE168.out | refine below_set ?_ GE177.out | refine below_set ?_ GE184.out) | exact HB.out)) hb)
             clear HO131
             clear HO147
             clear HO163
             clear HO173
             clear HO180
             clear BK118
             clear BK119
             clear BK135
             clear BK151
             clear BK168
             clear BK177
             clear BK184
             clear HB
             have HO131 := n0_
             have HO147 := n1_
             have HO163 := n2_
             have HO173 := n3_
             have HO180 := n4_
             have BK118 := n5_
             have BK119 := n6_
             have BK135 := n7_
             have BK151 := n8_
             have BK168 := n9_
             have BK177 := n10_
             have BK184 := n11_
             have HB := n12_
             clear n0_ n1_ n2_ n3_ n4_ n5_ n6_ n7_ n8_ n9_ n10_ n11_ n12_
             (try clear hb)
             (try clear hb2)
             (try clear hk)
             (try clear hi)
             refine hK.out _ _ ⟨(blk_cell BK119.out 0).trans rfl, (blk_cell BK119.out 1).trans rfl⟩ (fun hHeld => ?_)
             clear hK K
             refine norm_ (a' := ?_) ?_ ?_
             rotate_left
             ·
              show Act.put _ (some 73) _ = _
              simp only [Act.put, sT_, s0_, sS_, i64_w, i32_w]
              rfl
             refine pure_ (i := 3) (N := some 70) (v := ?_) (a' := ?_) #[true, true, true, true, false, false, true, false, false] rfl rfl (any_of HT_.out (by kernel_rfl)) (fun _ _ _ h => h) (Or.inl ⟨by rfl, ?_⟩) ?_ ?_
             rotate_left
             ·
              intro w'
              go_simp
              with_reducible rfl
             rotate_left
             ·
              simp only [Act.put, sT_, s0_, sS_, i64_w, i32_w]
              rfl
             refine pure_ (i := 4) (N := some 74) (v := ?_) (a' := ?_) #[true, true, true, true, true, false, true, false, false] rfl rfl (any_of HT_.out (by kernel_rfl)) (fun _ _ _ h => h) (Or.inl ⟨by rfl, ?_⟩) ?_ ?_
             rotate_left
             ·
              intro w'
              go_simp
              with_reducible rfl
             rotate_left
             ·
              simp only [Act.put, sT_, s0_, sS_, i64_w, i32_w]
              rfl
             refine pure_ (i := 5) (N := some 75) (v := ?_) (a' := ?_) #[true, true, true, true, true, true, true, false, false] rfl rfl (any_of HT_.out (by kernel_rfl)) (fun _ _ _ h => h) (Or.inl ⟨by rfl, ?_⟩) ?_ ?_
             rotate_left
             ·
              intro w'
              go_simp
              with_reducible rfl
             rotate_left
             ·
              simp only [Act.put, sT_, s0_, sS_, i64_w, i32_w]
              rfl
             exact norm_ (by simp only [putAll, Act.put, List.setIfInBounds_toArray, List.set_cons_zero, List.set_cons_succ]) (hCont (.slice Ao98 t178.length co98, gb184) _ ⟨hHeld, (by (with_reducible repeat (first | apply Kd.R_alloc | apply Kd.R_drewN | apply Kd.R_drew)); exact Kd.R_mono HO131.out (fun _ hk => ⟨hk.1.1, ⟨hk.1.2.1, ⟨hk.1.2.2, hk.2⟩⟩⟩)), (by (with_reducible repeat (first | apply Kd.R_alloc | apply Kd.R_drewN | apply Kd.R_drew)); exact Kd.R_mono HO147.out (fun _ hk => ⟨hk.1.1, ⟨hk.1.2.1, ⟨hk.1.2.2, hk.2⟩⟩⟩)), (by (with_reducible repeat (first | apply Kd.R_alloc | apply Kd.R_drewN | apply Kd.R_drew)); exact Kd.R_mono HO163.out (fun _ hk => ⟨hk.1.1, ⟨hk.1.2.1, ⟨hk.1.2.2, hk.2⟩⟩⟩)), (by (with_reducible repeat (first | apply Kd.R_alloc | apply Kd.R_drewN | apply Kd.R_drew)); exact Kd.R_mono HO173.out (fun _ hk => ⟨hk.1.1, ⟨hk.1.2.1, ⟨hk.1.2.2, hk.2⟩⟩⟩)), (by (with_reducible repeat (first | apply Kd.R_alloc | apply Kd.R_drewN | apply Kd.R_drew)); exact Kd.R_mono HO180.out (fun _ hk => ⟨hk.1.1.1.2, ⟨hk.1.1.2, ⟨hk.1.2, hk.2⟩⟩⟩)), (bk_ BK118.out), (bk_ BK119.out), (bk_ BK135.out), (bk_ BK151.out), (bk_ BK168.out), (bk_ BK177.out), (bk_ BK184.out), GW184.out, GE184.out, NB118_184.out, NB184_118.out, NB119_184.out, NB184_119.out, NB135_184.out, NB184_135.out, NB151_184.out, NB184_151.out, NB168_184.out, NB184_168.out, NB177_184.out, NB184_177.out, (by repeat (first | (with_reducible first | exact HB.out | apply below_alloc | apply pw_below_drewN | apply below_drew1 | refine below_set ?_ GE118.out | refine below_set ?_ GE119.out | refine below_set ?_ GE135.out | refine below_set ?_ GE151.out | refine below_set ?_ GE168.out | refine below_set ?_ GE177.out | refine below_set ?_ GE184.out) | exact HB.out))⟩)
           rintro ⟨v179, gb184⟩ w100 ⟨hS_, h0_, h1_, h2_, h3_, h4_, h5_, h6_, h7_, h8_, h9_, h10_, h11_, h12_, h13_, h14_, h15_, h16_, h17_, h18_, h19_, h20_, h21_, h22_, h23_, h24_, h25_, h26_⟩
           have n0_ : Aside0 (Kd.R (Kd.int .i64) 3 w100 w.heap.size (fun k_ => some k_ ≠ (.slice Ao66 t145.length co66 : Value).ownBlock ∧ some k_ ≠ (.slice Ao75 t161.length co75 : Value).ownBlock ∧ some k_ ≠ (.slice Ao85 t171.length co85 : Value).ownBlock ∧ some k_ ≠ (v179 : Value).ownBlock) (.slice Ao58 t129.length co58) t129) := ⟨h0_⟩
           have n1_ : Aside0 (Kd.R (Kd.int .i64) 3 w100 w.heap.size (fun k_ => some k_ ≠ (.slice Ao58 t129.length co58 : Value).ownBlock ∧ some k_ ≠ (.slice Ao75 t161.length co75 : Value).ownBlock ∧ some k_ ≠ (.slice Ao85 t171.length co85 : Value).ownBlock ∧ some k_ ≠ (v179 : Value).ownBlock) (.slice Ao66 t145.length co66) t145) := ⟨h1_⟩
           have n2_ : Aside0 (Kd.R (Kd.int .i64) 3 w100 w.heap.size (fun k_ => some k_ ≠ (.slice Ao58 t129.length co58 : Value).ownBlock ∧ some k_ ≠ (.slice Ao66 t145.length co66 : Value).ownBlock ∧ some k_ ≠ (.slice Ao85 t171.length co85 : Value).ownBlock ∧ some k_ ≠ (v179 : Value).ownBlock) (.slice Ao75 t161.length co75) t161) := ⟨h2_⟩
           have n3_ : Aside0 (Kd.R (Kd.int .i64) 3 w100 w.heap.size (fun k_ => some k_ ≠ (.slice Ao58 t129.length co58 : Value).ownBlock ∧ some k_ ≠ (.slice Ao66 t145.length co66 : Value).ownBlock ∧ some k_ ≠ (.slice Ao75 t161.length co75 : Value).ownBlock ∧ some k_ ≠ (v179 : Value).ownBlock) (.slice Ao85 t171.length co85) t171) := ⟨h3_⟩
           have n4_ : Aside0 (Kd.R (Kd.int .i64) 3 w100 w.heap.size (fun k_ => some k_ ≠ (.slice Ao58 t129.length co58 : Value).ownBlock ∧ some k_ ≠ (.slice Ao66 t145.length co66 : Value).ownBlock ∧ some k_ ≠ (.slice Ao75 t161.length co75 : Value).ownBlock ∧ some k_ ≠ (.slice Ao85 t171.length co85 : Value).ownBlock) v179 t178) := ⟨h4_⟩
           have n5_ : Aside0 (w100.heap[gb118]? = some (.cells #[.int .i64 t107, .int .i64 t108, .int .i64 t109, .int .i64 t110, .int .i64 t111, .int .i64 t112, .int .i64 t113, .int .i64 31, .int .i64 t115] 25 (0, 0))) := ⟨h5_⟩
           have n6_ : Aside0 (w100.heap[gb119]? = some (.cells #[.int .i64 t116, .int .i64 0] 48 (0, 0))) := ⟨h6_⟩
           have n7_ : Aside0 (w100.heap[gb135]? = some (.cells #[.int .i64 t132, .int .i64 t133] 23 (0, 0))) := ⟨h7_⟩
           have n8_ : Aside0 (w100.heap[gb151]? = some (.cells #[.int .i64 t148, .int .i64 t149] 23 (0, 0))) := ⟨h8_⟩
           have n9_ : Aside0 (w100.heap[gb168]? = some (.cells #[.int .i64 t164, .int .i64 t165] 23 (0, 0))) := ⟨h9_⟩
           have n10_ : Aside0 (w100.heap[gb177]? = some (.cells #[.int .i64 t174, .int .i64 t175] 23 (0, 0))) := ⟨h10_⟩
           have n11_ : Aside0 (w100.heap[gb184]? = some (.cells #[.int .i64 0, .int .i64 0] 23 (0, 0))) := ⟨h11_⟩
           have n12_ : Aside0 (w.heap.size ≤ gb184) := ⟨h12_⟩
           have n13_ : Aside0 (w.heap.size ≤ gb184) := ⟨h13_⟩
           have n14_ : Aside0 (gb118 ≠ gb184) := ⟨h14_⟩
           have n15_ : Aside0 (gb184 ≠ gb118) := ⟨h15_⟩
           have n16_ : Aside0 (gb119 ≠ gb184) := ⟨h16_⟩
           have n17_ : Aside0 (gb184 ≠ gb119) := ⟨h17_⟩
           have n18_ : Aside0 (gb135 ≠ gb184) := ⟨h18_⟩
           have n19_ : Aside0 (gb184 ≠ gb135) := ⟨h19_⟩
           have n20_ : Aside0 (gb151 ≠ gb184) := ⟨h20_⟩
           have n21_ : Aside0 (gb184 ≠ gb151) := ⟨h21_⟩
           have n22_ : Aside0 (gb168 ≠ gb184) := ⟨h22_⟩
           have n23_ : Aside0 (gb184 ≠ gb168) := ⟨h23_⟩
           have n24_ : Aside0 (gb177 ≠ gb184) := ⟨h24_⟩
           have n25_ : Aside0 (gb184 ≠ gb177) := ⟨h25_⟩
           have n26_ : Aside0 (Below w.heap.size w w100) := ⟨h26_⟩
           clear HO131
           clear HO147
           clear HO163
           clear HO173
           clear BK118
           clear BK119
           clear BK135
           clear BK151
           clear BK168
           clear BK177
           clear HB
           clear h0_ h1_ h2_ h3_ h4_ h5_ h6_ h7_ h8_ h9_ h10_ h11_ h12_ h13_ h14_ h15_ h16_ h17_ h18_ h19_ h20_ h21_ h22_ h23_ h24_ h25_ h26_
           have HO131 := n0_
           have HO147 := n1_
           have HO163 := n2_
           have HO173 := n3_
           have HO180 := n4_
           have BK118 := n5_
           have BK119 := n6_
           have BK135 := n7_
           have BK151 := n8_
           have BK168 := n9_
           have BK177 := n10_
           have BK184 := n11_
           have GW184 := n12_
           have GE184 := n13_
           have NB118_184 := n14_
           have NB184_118 := n15_
           have NB119_184 := n16_
           have NB184_119 := n17_
           have NB135_184 := n18_
           have NB184_135 := n19_
           have NB151_184 := n20_
           have NB184_151 := n21_
           have NB168_184 := n22_
           have NB184_168 := n23_
           have NB177_184 := n24_
           have NB184_177 := n25_
           have HB := n26_
           clear n0_ n1_ n2_ n3_ n4_ n5_ n6_ n7_ n8_ n9_ n10_ n11_ n12_ n13_ n14_ n15_ n16_ n17_ n18_ n19_ n20_ n21_ n22_ n23_ n24_ n25_ n26_
           have hHeld : w100.cell? ⟨gb119, 0, none⟩ = some (.int .i64 t116) ∧ w100.cell? ⟨gb119, 1, none⟩ = some (.int .i64 0) := hS_
           refine norm_ (a' := ?_) ?_ ?_
           rotate_left
           ·
            simp only [putAll, Act.put, List.setIfInBounds_toArray, List.set_cons_zero, List.set_cons_succ]
            rfl
           refine one_ (i := 7) (N := none) #[true, true, true, true, true, true, true, true, false] rfl rfl (one_of HT_.out (by kernel_rfl)) (by decide) (fun K hK => ?_)
           have hs101 : w100.cell? ⟨gb184, 0, none⟩ = some (.int .i64 0) := (blk_cell BK184.out 0).trans rfl
           have hfs101 := blk_frozen BK184.out 0
           have hns101_0 := NB118_184.out
           have hns101_1 := NB119_184.out
           have hns101_2 := NB135_184.out
           have hns101_3 := NB151_184.out
           have hns101_4 := NB168_184.out
           have hns101_5 := NB177_184.out
           have hms101_0 := NB184_118.out
           have hms101_1 := NB184_119.out
           have hms101_2 := NB184_135.out
           have hms101_3 := NB184_151.out
           have hms101_4 := NB184_168.out
           have hms101_5 := NB184_177.out
           have hs102 : w100.cell? ⟨gb184, 1, none⟩ = some (.int .i64 0) := (blk_cell BK184.out 1).trans rfl
           have hfs102 := blk_frozen BK184.out 1
           have hns102_0 := NB118_184.out
           have hns102_1 := NB119_184.out
           have hns102_2 := NB135_184.out
           have hns102_3 := NB151_184.out
           have hns102_4 := NB168_184.out
           have hns102_5 := NB177_184.out
           have hms102_0 := NB184_118.out
           have hms102_1 := NB184_119.out
           have hms102_2 := NB184_135.out
           have hms102_3 := NB184_151.out
           have hms102_4 := NB184_168.out
           have hms102_5 := NB184_177.out
           refine skip_ (w1 := ?_) (by rfl) rfl ?_ ?_
           rotate_left
           ·
            go_simp
            rfl
           refine hK.out _ _ ⟨((cell_far (p := ⟨gb184, _, none⟩) NB119_184.out _).trans (((cell_far (p := ⟨gb184, _, none⟩) NB119_184.out _).trans (hHeld.1)))), ((cell_far (p := ⟨gb184, _, none⟩) NB119_184.out _).trans (((cell_far (p := ⟨gb184, _, none⟩) NB119_184.out _).trans (hHeld.2))))⟩ (fun hHeld => ?_)
           clear hK K
           refine pure_ (i := 8) (N := some 13) (v := ?_) (a' := ?_) #[true, true, true, true, true, true, true, true, true] rfl rfl (any_of HT_.out (by kernel_rfl)) (fun _ _ _ h => h) (Or.inl ⟨by rfl, ?_⟩) ?_ ?_
           rotate_left
           ·
            intro w'
            go_simp
            with_reducible rfl
           rotate_left
           ·
            simp only [Act.put, sT_, s0_, sS_, i64_w, i32_w]
            rfl
           refine done_ (done_of HT_.out (by kernel_rfl)) ?_
           try go_wp2_with (first | ((with_reducible refine gate_callee (f := 25) rfl ?_); refine goesL_ (some 77) rfl rfl Tryd.func25 (by kernel_rfl) rfl #[] rfl (by (try simp only [List.map_toArray, List.map_cons, List.map_nil]); first | done | rfl | (simp only [List.length_drop, List.length_take]; rfl)) ?_; (with_reducible refine (cottonpadlaw04_lamp.calls  t185 t186 _ A36.out).mono ?_); rintro e w103 ⟨rfl, hb⟩; refine ⟨_, rfl, ?_⟩; have n0_ := A_ (Kd.R_below (by (with_reducible repeat (first | apply Kd.R_alloc | apply Kd.R_drewN | apply Kd.R_drew)); exact (Kd.R_mono (Kd.R_far (p := ⟨gb184, 1, none⟩) (Kd.R_far (p := ⟨gb184, 0, none⟩) (Kd.R_types HO131.out BK184.out (by decide)) (fun _ hk => hk.2) (.int .i64 t181)) (fun _ hk => hk.2) (.int .i64 t182)) (fun _ h_ => h_.1))) hb); have n1_ := A_ (Kd.R_below (by (with_reducible repeat (first | apply Kd.R_alloc | apply Kd.R_drewN | apply Kd.R_drew)); exact (Kd.R_mono (Kd.R_far (p := ⟨gb184, 1, none⟩) (Kd.R_far (p := ⟨gb184, 0, none⟩) (Kd.R_types HO147.out BK184.out (by decide)) (fun _ hk => hk.2) (.int .i64 t181)) (fun _ hk => hk.2) (.int .i64 t182)) (fun _ h_ => h_.1))) hb); have n2_ := A_ (Kd.R_below (by (with_reducible repeat (first | apply Kd.R_alloc | apply Kd.R_drewN | apply Kd.R_drew)); exact (Kd.R_mono (Kd.R_far (p := ⟨gb184, 1, none⟩) (Kd.R_far (p := ⟨gb184, 0, none⟩) (Kd.R_types HO163.out BK184.out (by decide)) (fun _ hk => hk.2) (.int .i64 t181)) (fun _ hk => hk.2) (.int .i64 t182)) (fun _ h_ => h_.1))) hb); have n3_ := A_ (Kd.R_below (by (with_reducible repeat (first | apply Kd.R_alloc | apply Kd.R_drewN | apply Kd.R_drew)); exact (Kd.R_mono (Kd.R_far (p := ⟨gb184, 1, none⟩) (Kd.R_far (p := ⟨gb184, 0, none⟩) (Kd.R_types HO173.out BK184.out (by decide)) (fun _ hk => hk.2) (.int .i64 t181)) (fun _ hk => hk.2) (.int .i64 t182)) (fun _ h_ => h_.1))) hb); have n4_ := A_ (Kd.R_below (by (with_reducible repeat (first | apply Kd.R_alloc | apply Kd.R_drewN | apply Kd.R_drew)); exact (Kd.R_mono (Kd.R_far (p := ⟨gb184, 1, none⟩) (Kd.R_far (p := ⟨gb184, 0, none⟩) (Kd.R_types HO180.out BK184.out (by decide)) (fun _ hk => hk.2) (.int .i64 t181)) (fun _ hk => hk.2) (.int .i64 t182)) (fun _ h_ => h_.1))) hb); have n5_ := A_ (blk_below (g := gb118) (o := .cells #[.int .i64 t107, .int .i64 t108, .int .i64 t109, .int .i64 t110, .int .i64 t111, .int .i64 t112, .int .i64 t113, .int .i64 31, .int .i64 t115] 25 (0, 0)) (by (with_reducible repeat (first | refine blk_drewN ?_ _ | refine blk_drew ?_ | refine blk_alloc ?_ _)); refine blk_far ?_ NB118_184.out _; (with_reducible repeat (first | refine blk_drewN ?_ _ | refine blk_drew ?_ | refine blk_alloc ?_ _)); refine blk_far ?_ NB118_184.out _; (with_reducible repeat (first | refine blk_drewN ?_ _ | refine blk_drew ?_ | refine blk_alloc ?_ _)); exact BK118.out) hb); have n6_ := A_ (blk_below (g := gb119) (o := .cells #[.int .i64 t116, .int .i64 0] 48 (0, 0)) (by (with_reducible repeat (first | refine blk_drewN ?_ _ | refine blk_drew ?_ | refine blk_alloc ?_ _)); refine blk_far ?_ NB119_184.out _; (with_reducible repeat (first | refine blk_drewN ?_ _ | refine blk_drew ?_ | refine blk_alloc ?_ _)); refine blk_far ?_ NB119_184.out _; (with_reducible repeat (first | refine blk_drewN ?_ _ | refine blk_drew ?_ | refine blk_alloc ?_ _)); exact BK119.out) hb); have n7_ := A_ (blk_below (g := gb135) (o := .cells #[.int .i64 t132, .int .i64 t133] 23 (0, 0)) (by (with_reducible repeat (first | refine blk_drewN ?_ _ | refine blk_drew ?_ | refine blk_alloc ?_ _)); refine blk_far ?_ NB135_184.out _; (with_reducible repeat (first | refine blk_drewN ?_ _ | refine blk_drew ?_ | refine blk_alloc ?_ _)); refine blk_far ?_ NB135_184.out _; (with_reducible repeat (first | refine blk_drewN ?_ _ | refine blk_drew ?_ | refine blk_alloc ?_ _)); exact BK135.out) hb); have n8_ := A_ (blk_below (g := gb151) (o := .cells #[.int .i64 t148, .int .i64 t149] 23 (0, 0)) (by (with_reducible repeat (first | refine blk_drewN ?_ _ | refine blk_drew ?_ | refine blk_alloc ?_ _)); refine blk_far ?_ NB151_184.out _; (with_reducible repeat (first | refine blk_drewN ?_ _ | refine blk_drew ?_ | refine blk_alloc ?_ _)); refine blk_far ?_ NB151_184.out _; (with_reducible repeat (first | refine blk_drewN ?_ _ | refine blk_drew ?_ | refine blk_alloc ?_ _)); exact BK151.out) hb); have n9_ := A_ (blk_below (g := gb168) (o := .cells #[.int .i64 t164, .int .i64 t165] 23 (0, 0)) (by (with_reducible repeat (first | refine blk_drewN ?_ _ | refine blk_drew ?_ | refine blk_alloc ?_ _)); refine blk_far ?_ NB168_184.out _; (with_reducible repeat (first | refine blk_drewN ?_ _ | refine blk_drew ?_ | refine blk_alloc ?_ _)); refine blk_far ?_ NB168_184.out _; (with_reducible repeat (first | refine blk_drewN ?_ _ | refine blk_drew ?_ | refine blk_alloc ?_ _)); exact BK168.out) hb); have n10_ := A_ (blk_below (g := gb177) (o := .cells #[.int .i64 t174, .int .i64 t175] 23 (0, 0)) (by (with_reducible repeat (first | refine blk_drewN ?_ _ | refine blk_drew ?_ | refine blk_alloc ?_ _)); refine blk_far ?_ NB177_184.out _; (with_reducible repeat (first | refine blk_drewN ?_ _ | refine blk_drew ?_ | refine blk_alloc ?_ _)); refine blk_far ?_ NB177_184.out _; (with_reducible repeat (first | refine blk_drewN ?_ _ | refine blk_drew ?_ | refine blk_alloc ?_ _)); exact BK177.out) hb); have n11_ := A_ (blk_below (g := gb184) (o := .cells #[.int .i64 t181, .int .i64 t182] 23 (0, 0)) (by (with_reducible repeat (first | refine blk_drewN ?_ _ | refine blk_drew ?_ | refine blk_alloc ?_ _)); refine blk_put (cs := #[.int .i64 t181, .int .i64 0]) ?_ 1 _ rfl; (with_reducible repeat (first | refine blk_drewN ?_ _ | refine blk_drew ?_ | refine blk_alloc ?_ _)); refine blk_put (cs := #[.int .i64 0, .int .i64 0]) ?_ 0 _ rfl; (with_reducible repeat (first | refine blk_drewN ?_ _ | refine blk_drew ?_ | refine blk_alloc ?_ _)); exact BK184.out) hb); have n12_ := A_ (below_step (by repeat (first | (with_reducible first | exact HB.out | apply below_alloc | apply pw_below_drewN | apply below_drew1 | refine below_set ?_ GE118.out | refine below_set ?_ GE119.out | refine below_set ?_ GE135.out | refine below_set ?_ GE151.out | refine below_set ?_ GE168.out | refine below_set ?_ GE177.out | refine below_set ?_ GE184.out) | exact HB.out)) hb); clear HO131; clear HO147; clear HO163; clear HO173; clear HO180; clear BK118; clear BK119; clear BK135; clear BK151; clear BK168; clear BK177; clear BK184; clear HB; have HO131 := n0_; have HO147 := n1_; have HO163 := n2_; have HO173 := n3_; have HO180 := n4_; have BK118 := n5_; have BK119 := n6_; have BK135 := n7_; have BK151 := n8_; have BK168 := n9_; have BK177 := n10_; have BK184 := n11_; have HB := n12_; clear n0_ n1_ n2_ n3_ n4_ n5_ n6_ n7_ n8_ n9_ n10_ n11_ n12_; (try clear hb); (try clear hb2); (try clear hk); (try clear hi)) | ((with_reducible refine gate_dst (N := 78) rfl ?_); (try (refine gate_guard (by rfl) ?_; dsimp only)); refine Kd.R_lit (Kd.int .i64) _ 3 ?hg (N := 78) ?hd (xs := ([1001] : List Int)) (inner := [.int .i64 1001]) (ok := fun _ => True) (okp := fun _ => True) ?hr ?hp (fun _ hk => hk) trivial (Below.refl _ _) (Nat.le_refl _) (by simp) ?_; (case hd => rfl); (case hg => rfl); (case hr => first | (go_simp; done) | (go_simp; rfl)); (case hp => exact (Reps.one (show Kd.M (Kd.int .i64) _ _ _ 1001 [.int .i64 1001] from rfl) (Reps.none _ _))); intro v188 w104 ho105 hb hg_ hnew_; clear hg_ hnew_; (first | rw [← Ny187.out] at ho105 | (simp only [Int.reduceToNat] at ho105; rw [← Ny187.out] at ho105)); have n0_ := A_ (Kd.R_elder' (kr_ HO131.out) (Kd.R_base ho105) hb); have n1_ := A_ (Kd.R_elder' (kr_ HO147.out) (Kd.R_base ho105) hb); have n2_ := A_ (Kd.R_elder' (kr_ HO163.out) (Kd.R_base ho105) hb); have n3_ := A_ (Kd.R_elder' (kr_ HO173.out) (Kd.R_base ho105) hb); have n4_ := A_ (Kd.R_elder' (kr_ HO180.out) (Kd.R_base ho105) hb); have n5_ := A_ (Kd.R_lower (Kd.R_new' (Kd.R_new' (Kd.R_new' (Kd.R_new' (Kd.R_new' ho105 (Kd.R_lt (kr_ HO131.out))) (Kd.R_lt (kr_ HO147.out))) (Kd.R_lt (kr_ HO163.out))) (Kd.R_lt (kr_ HO173.out))) (Kd.R_lt (kr_ HO180.out))) (below_size (by repeat (first | (with_reducible first | exact HB.out | apply below_alloc | apply pw_below_drewN | apply below_drew1 | refine below_set ?_ GE118.out | refine below_set ?_ GE119.out | refine below_set ?_ GE135.out | refine below_set ?_ GE151.out | refine below_set ?_ GE168.out | refine below_set ?_ GE177.out | refine below_set ?_ GE184.out) | exact HB.out)))); have n6_ := bb_ BK118.out hb; have n7_ := bb_ BK119.out hb; have n8_ := bb_ BK135.out hb; have n9_ := bb_ BK151.out hb; have n10_ := bb_ BK168.out hb; have n11_ := bb_ BK177.out hb; have n12_ := bb_ BK184.out hb; have n13_ := A_ (below_step (by repeat (first | (with_reducible first | exact HB.out | apply below_alloc | apply pw_below_drewN | apply below_drew1 | refine below_set ?_ GE118.out | refine below_set ?_ GE119.out | refine below_set ?_ GE135.out | refine below_set ?_ GE151.out | refine below_set ?_ GE168.out | refine below_set ?_ GE177.out | refine below_set ?_ GE184.out) | exact HB.out)) hb); clear HO131; clear HO147; clear HO163; clear HO173; clear HO180; clear BK118; clear BK119; clear BK135; clear BK151; clear BK168; clear BK177; clear BK184; clear HB; have HO131 := n0_; have HO147 := n1_; have HO163 := n2_; have HO173 := n3_; have HO180 := n4_; have HO189 := n5_; have BK118 := n6_; have BK119 := n7_; have BK135 := n8_; have BK151 := n9_; have BK168 := n10_; have BK177 := n11_; have BK184 := n12_; have HB := n13_; clear n0_ n1_ n2_ n3_ n4_ n5_ n6_ n7_ n8_ n9_ n10_ n11_ n12_ n13_; clear hb ho105; obtain ⟨Ao106, co106, eo106⟩ := Kd.R_slice HO189.out; subst eo106) | ((with_reducible refine gate_callee (f := 30) rfl ?_); refine goesL_ (some 79) rfl rfl Tryd.func30 (by kernel_rfl) rfl #[.agg #[.int .i64 t185, .int .i64 t186], .slice Ao106 y187.length co106, .int .i64 0] rfl (by (try simp only [List.map_toArray, List.map_cons, List.map_nil]); first | done | rfl | (simp only [List.length_drop, List.length_take]; rfl)) ?_; (with_reducible refine (burn_Clean.calls kj0 t185 t186 _ _ y187 0 t190 t191 t192 _ ?side1 ?side2 A37.out).mono ?_); (case side1 => repeat (first | exact (Kd.R_reads' HO189.out).2.2 | (with_reducible refine Kd.C_alloc ?_ _) | (with_reducible refine Kd.C_drewN ?_ _) | (with_reducible refine Kd.C_drew ?_))); (case side2 => exact (Kd.R_reads' HO189.out).2.1); rintro e w107 ⟨rfl, hb⟩; refine ⟨_, rfl, ?_⟩; have n0_ := A_ (Kd.R_below (kr_ HO131.out) hb); have n1_ := A_ (Kd.R_below (kr_ HO147.out) hb); have n2_ := A_ (Kd.R_below (kr_ HO163.out) hb); have n3_ := A_ (Kd.R_below (kr_ HO173.out) hb); have n4_ := A_ (Kd.R_below (kr_ HO180.out) hb); have n5_ := A_ (Kd.R_below (kr_ HO189.out) hb); have n6_ := bb_ BK118.out hb; have n7_ := bb_ BK119.out hb; have n8_ := bb_ BK135.out hb; have n9_ := bb_ BK151.out hb; have n10_ := bb_ BK168.out hb; have n11_ := bb_ BK177.out hb; have n12_ := bb_ BK184.out hb; have n13_ := A_ (below_step (by repeat (first | (with_reducible first | exact HB.out | apply below_alloc | apply pw_below_drewN | apply below_drew1 | refine below_set ?_ GE118.out | refine below_set ?_ GE119.out | refine below_set ?_ GE135.out | refine below_set ?_ GE151.out | refine below_set ?_ GE168.out | refine below_set ?_ GE177.out | refine below_set ?_ GE184.out) | exact HB.out)) hb); clear HO131; clear HO147; clear HO163; clear HO173; clear HO180; clear HO189; clear BK118; clear BK119; clear BK135; clear BK151; clear BK168; clear BK177; clear BK184; clear HB; have HO131 := n0_; have HO147 := n1_; have HO163 := n2_; have HO173 := n3_; have HO180 := n4_; have HO189 := n5_; have BK118 := n6_; have BK119 := n7_; have BK135 := n8_; have BK151 := n9_; have BK168 := n10_; have BK177 := n11_; have BK184 := n12_; have HB := n13_; clear n0_ n1_ n2_ n3_ n4_ n5_ n6_ n7_ n8_ n9_ n10_ n11_ n12_ n13_; (try clear hb); (try clear hb2); (try clear hk); (try clear hi)) | ((with_reducible refine gate_dst (N := 14) rfl ?_); (try (refine gate_guard (by rfl) ?_; dsimp only)); refine box_event ?hg (N := 14) ?hd (cs := #[.int .i64 0, .int .i64 0]) (t := 23) ?hr ?_; (case hd => rfl); (case hg => rfl); (case hr => first | (go_simp; done) | (go_simp; rfl)); intro gb193 hg w108 hbox hb; have n0_ := A_ (Kd.R_below (kr_ HO131.out) hb); have n1_ := A_ (Kd.R_below (kr_ HO147.out) hb); have n2_ := A_ (Kd.R_below (kr_ HO163.out) hb); have n3_ := A_ (Kd.R_below (kr_ HO173.out) hb); have n4_ := A_ (Kd.R_below (kr_ HO180.out) hb); have n5_ := A_ (Kd.R_below (kr_ HO189.out) hb); have n6_ := bb_ BK118.out hb; have n7_ := bb_ BK119.out hb; have n8_ := bb_ BK135.out hb; have n9_ := bb_ BK151.out hb; have n10_ := bb_ BK168.out hb; have n11_ := bb_ BK177.out hb; have n12_ := bb_ BK184.out hb; have n13_ := A_ (below_step (by repeat (first | (with_reducible first | exact HB.out | apply below_alloc | apply pw_below_drewN | apply below_drew1 | refine below_set ?_ GE118.out | refine below_set ?_ GE119.out | refine below_set ?_ GE135.out | refine below_set ?_ GE151.out | refine below_set ?_ GE168.out | refine below_set ?_ GE177.out | refine below_set ?_ GE184.out) | exact HB.out)) hb); have n14_ := A_ (hbox); have n15_ := A_ ((by rw [hg]; exact (below_size (by repeat (first | (with_reducible first | exact HB.out | apply below_alloc | apply pw_below_drewN | apply below_drew1 | refine below_set ?_ GE118.out | refine below_set ?_ GE119.out | refine below_set ?_ GE135.out | refine below_set ?_ GE151.out | refine below_set ?_ GE168.out | refine below_set ?_ GE177.out | refine below_set ?_ GE184.out) | exact HB.out))) : w.heap.size ≤ gb193)); have n16_ := A_ ((by rw [hg]; exact (below_size (by repeat (first | (with_reducible first | exact HB.out | apply below_alloc | apply pw_below_drewN | apply below_drew1 | refine below_set ?_ GE118.out | refine below_set ?_ GE119.out | refine below_set ?_ GE135.out | refine below_set ?_ GE151.out | refine below_set ?_ GE168.out | refine below_set ?_ GE177.out | refine below_set ?_ GE184.out) | exact HB.out))) : w.heap.size ≤ gb193)); have n17_ := A_ ((by rw [hg]; exact Nat.ne_of_lt (blk_lt (g := gb118) (o := .cells #[.int .i64 t107, .int .i64 t108, .int .i64 t109, .int .i64 t110, .int .i64 t111, .int .i64 t112, .int .i64 t113, .int .i64 31, .int .i64 t115] 25 (0, 0)) (bk_ BK118.out)) : gb118 ≠ gb193)); have n18_ := A_ ((by rw [hg]; exact Nat.ne_of_gt (blk_lt (g := gb118) (o := .cells #[.int .i64 t107, .int .i64 t108, .int .i64 t109, .int .i64 t110, .int .i64 t111, .int .i64 t112, .int .i64 t113, .int .i64 31, .int .i64 t115] 25 (0, 0)) (bk_ BK118.out)) : gb193 ≠ gb118)); have n19_ := A_ ((by rw [hg]; exact Nat.ne_of_lt (blk_lt (g := gb119) (o := .cells #[.int .i64 t116, .int .i64 0] 48 (0, 0)) (bk_ BK119.out)) : gb119 ≠ gb193)); have n20_ := A_ ((by rw [hg]; exact Nat.ne_of_gt (blk_lt (g := gb119) (o := .cells #[.int .i64 t116, .int .i64 0] 48 (0, 0)) (bk_ BK119.out)) : gb193 ≠ gb119)); have n21_ := A_ ((by rw [hg]; exact Nat.ne_of_lt (blk_lt (g := gb135) (o := .cells #[.int .i64 t132, .int .i64 t133] 23 (0, 0)) (bk_ BK135.out)) : gb135 ≠ gb193)); have n22_ := A_ ((by rw [hg]; exact Nat.ne_of_gt (blk_lt (g := gb135) (o := .cells #[.int .i64 t132, .int .i64 t133] 23 (0, 0)) (bk_ BK135.out)) : gb193 ≠ gb135)); have n23_ := A_ ((by rw [hg]; exact Nat.ne_of_lt (blk_lt (g := gb151) (o := .cells #[.int .i64 t148, .int .i64 t149] 23 (0, 0)) (bk_ BK151.out)) : gb151 ≠ gb193)); have n24_ := A_ ((by rw [hg]; exact Nat.ne_of_gt (blk_lt (g := gb151) (o := .cells #[.int .i64 t148, .int .i64 t149] 23 (0, 0)) (bk_ BK151.out)) : gb193 ≠ gb151)); have n25_ := A_ ((by rw [hg]; exact Nat.ne_of_lt (blk_lt (g := gb168) (o := .cells #[.int .i64 t164, .int .i64 t165] 23 (0, 0)) (bk_ BK168.out)) : gb168 ≠ gb193)); have n26_ := A_ ((by rw [hg]; exact Nat.ne_of_gt (blk_lt (g := gb168) (o := .cells #[.int .i64 t164, .int .i64 t165] 23 (0, 0)) (bk_ BK168.out)) : gb193 ≠ gb168)); have n27_ := A_ ((by rw [hg]; exact Nat.ne_of_lt (blk_lt (g := gb177) (o := .cells #[.int .i64 t174, .int .i64 t175] 23 (0, 0)) (bk_ BK177.out)) : gb177 ≠ gb193)); have n28_ := A_ ((by rw [hg]; exact Nat.ne_of_gt (blk_lt (g := gb177) (o := .cells #[.int .i64 t174, .int .i64 t175] 23 (0, 0)) (bk_ BK177.out)) : gb193 ≠ gb177)); have n29_ := A_ ((by rw [hg]; exact Nat.ne_of_lt (blk_lt (g := gb184) (o := .cells #[.int .i64 t181, .int .i64 t182] 23 (0, 0)) (bk_ BK184.out)) : gb184 ≠ gb193)); have n30_ := A_ ((by rw [hg]; exact Nat.ne_of_gt (blk_lt (g := gb184) (o := .cells #[.int .i64 t181, .int .i64 t182] 23 (0, 0)) (bk_ BK184.out)) : gb193 ≠ gb184)); clear HO131; clear HO147; clear HO163; clear HO173; clear HO180; clear HO189; clear BK118; clear BK119; clear BK135; clear BK151; clear BK168; clear BK177; clear BK184; clear HB; have HO131 := n0_; have HO147 := n1_; have HO163 := n2_; have HO173 := n3_; have HO180 := n4_; have HO189 := n5_; have BK118 := n6_; have BK119 := n7_; have BK135 := n8_; have BK151 := n9_; have BK168 := n10_; have BK177 := n11_; have BK184 := n12_; have HB := n13_; have BK193 := n14_; have GW193 := n15_; have GE193 := n16_; have NB118_193 := n17_; have NB193_118 := n18_; have NB119_193 := n19_; have NB193_119 := n20_; have NB135_193 := n21_; have NB193_135 := n22_; have NB151_193 := n23_; have NB193_151 := n24_; have NB168_193 := n25_; have NB193_168 := n26_; have NB177_193 := n27_; have NB193_177 := n28_; have NB184_193 := n29_; have NB193_184 := n30_; clear n0_ n1_ n2_ n3_ n4_ n5_ n6_ n7_ n8_ n9_ n10_ n11_ n12_ n13_ n14_ n15_ n16_ n17_ n18_ n19_ n20_ n21_ n22_ n23_ n24_ n25_ n26_ n27_ n28_ n29_ n30_; clear hb hbox hg; have hnb109 := NB193_118.out; have hnc109 := NB118_193.out; have hnb110 := NB193_119.out; have hnc110 := NB119_193.out; have hnb111 := NB193_135.out; have hnc111 := NB135_193.out; have hnb112 := NB193_151.out; have hnc112 := NB151_193.out; have hnb113 := NB193_168.out; have hnc113 := NB168_193.out; have hnb114 := NB193_177.out; have hnc114 := NB177_193.out; have hnb115 := NB193_184.out; have hnc115 := NB184_193.out; have hcz116_0 : w108.cell? ⟨gb193, 0, none⟩ = some (.int .i64 0) := (blk_cell BK193.out 0).trans rfl; have hcz116_1 : w108.cell? ⟨gb193, 1, none⟩ = some (.int .i64 0) := (blk_cell BK193.out 1).trans rfl; have hfz116_0 := blk_frozen BK193.out 0; have hfz116_1 := blk_frozen BK193.out 1))
           have n0_ : Aside0 (Kd.R (Kd.int .i64) 3 ((w108.setCell ⟨gb193, 0, none⟩ (.int .i64 t190)).setCell ⟨gb193, 1, none⟩ (.int .i64 t191)) w.heap.size (fun k_ => some k_ ≠ (.slice Ao66 t145.length co66 : Value).ownBlock ∧ some k_ ≠ (.slice Ao75 t161.length co75 : Value).ownBlock ∧ some k_ ≠ (.slice Ao85 t171.length co85 : Value).ownBlock ∧ some k_ ≠ (v179 : Value).ownBlock ∧ some k_ ≠ (.slice Ao106 y187.length co106 : Value).ownBlock) (.slice Ao58 t129.length co58) t129) := ⟨by (with_reducible repeat (first | apply Kd.R_alloc | apply Kd.R_drewN | apply Kd.R_drew)); exact Kd.R_mono (Kd.R_far (p := ⟨gb193, 1, none⟩) (Kd.R_far (p := ⟨gb193, 0, none⟩) (Kd.R_types HO131.out BK193.out (by decide)) (fun _ hk => hk.2) (.int .i64 t190)) (fun _ hk => hk.2) (.int .i64 t191)) (fun _ hk => ⟨hk.1.1.1, ⟨hk.1.1.2.1, ⟨hk.1.1.2.2.1, ⟨hk.1.1.2.2.2, hk.1.2⟩⟩⟩⟩)⟩
           have n1_ : Aside0 (Kd.R (Kd.int .i64) 3 ((w108.setCell ⟨gb193, 0, none⟩ (.int .i64 t190)).setCell ⟨gb193, 1, none⟩ (.int .i64 t191)) w.heap.size (fun k_ => some k_ ≠ (.slice Ao58 t129.length co58 : Value).ownBlock ∧ some k_ ≠ (.slice Ao75 t161.length co75 : Value).ownBlock ∧ some k_ ≠ (.slice Ao85 t171.length co85 : Value).ownBlock ∧ some k_ ≠ (v179 : Value).ownBlock ∧ some k_ ≠ (.slice Ao106 y187.length co106 : Value).ownBlock) (.slice Ao66 t145.length co66) t145) := ⟨by (with_reducible repeat (first | apply Kd.R_alloc | apply Kd.R_drewN | apply Kd.R_drew)); exact Kd.R_mono (Kd.R_far (p := ⟨gb193, 1, none⟩) (Kd.R_far (p := ⟨gb193, 0, none⟩) (Kd.R_types HO147.out BK193.out (by decide)) (fun _ hk => hk.2) (.int .i64 t190)) (fun _ hk => hk.2) (.int .i64 t191)) (fun _ hk => ⟨hk.1.1.1, ⟨hk.1.1.2.1, ⟨hk.1.1.2.2.1, ⟨hk.1.1.2.2.2, hk.1.2⟩⟩⟩⟩)⟩
           have n2_ : Aside0 (Kd.R (Kd.int .i64) 3 ((w108.setCell ⟨gb193, 0, none⟩ (.int .i64 t190)).setCell ⟨gb193, 1, none⟩ (.int .i64 t191)) w.heap.size (fun k_ => some k_ ≠ (.slice Ao58 t129.length co58 : Value).ownBlock ∧ some k_ ≠ (.slice Ao66 t145.length co66 : Value).ownBlock ∧ some k_ ≠ (.slice Ao85 t171.length co85 : Value).ownBlock ∧ some k_ ≠ (v179 : Value).ownBlock ∧ some k_ ≠ (.slice Ao106 y187.length co106 : Value).ownBlock) (.slice Ao75 t161.length co75) t161) := ⟨by (with_reducible repeat (first | apply Kd.R_alloc | apply Kd.R_drewN | apply Kd.R_drew)); exact Kd.R_mono (Kd.R_far (p := ⟨gb193, 1, none⟩) (Kd.R_far (p := ⟨gb193, 0, none⟩) (Kd.R_types HO163.out BK193.out (by decide)) (fun _ hk => hk.2) (.int .i64 t190)) (fun _ hk => hk.2) (.int .i64 t191)) (fun _ hk => ⟨hk.1.1.1, ⟨hk.1.1.2.1, ⟨hk.1.1.2.2.1, ⟨hk.1.1.2.2.2, hk.1.2⟩⟩⟩⟩)⟩
           have n3_ : Aside0 (Kd.R (Kd.int .i64) 3 ((w108.setCell ⟨gb193, 0, none⟩ (.int .i64 t190)).setCell ⟨gb193, 1, none⟩ (.int .i64 t191)) w.heap.size (fun k_ => some k_ ≠ (.slice Ao58 t129.length co58 : Value).ownBlock ∧ some k_ ≠ (.slice Ao66 t145.length co66 : Value).ownBlock ∧ some k_ ≠ (.slice Ao75 t161.length co75 : Value).ownBlock ∧ some k_ ≠ (v179 : Value).ownBlock ∧ some k_ ≠ (.slice Ao106 y187.length co106 : Value).ownBlock) (.slice Ao85 t171.length co85) t171) := ⟨by (with_reducible repeat (first | apply Kd.R_alloc | apply Kd.R_drewN | apply Kd.R_drew)); exact Kd.R_mono (Kd.R_far (p := ⟨gb193, 1, none⟩) (Kd.R_far (p := ⟨gb193, 0, none⟩) (Kd.R_types HO173.out BK193.out (by decide)) (fun _ hk => hk.2) (.int .i64 t190)) (fun _ hk => hk.2) (.int .i64 t191)) (fun _ hk => ⟨hk.1.1.1, ⟨hk.1.1.2.1, ⟨hk.1.1.2.2.1, ⟨hk.1.1.2.2.2, hk.1.2⟩⟩⟩⟩)⟩
           have n4_ : Aside0 (Kd.R (Kd.int .i64) 3 ((w108.setCell ⟨gb193, 0, none⟩ (.int .i64 t190)).setCell ⟨gb193, 1, none⟩ (.int .i64 t191)) w.heap.size (fun k_ => some k_ ≠ (.slice Ao58 t129.length co58 : Value).ownBlock ∧ some k_ ≠ (.slice Ao66 t145.length co66 : Value).ownBlock ∧ some k_ ≠ (.slice Ao75 t161.length co75 : Value).ownBlock ∧ some k_ ≠ (.slice Ao85 t171.length co85 : Value).ownBlock ∧ some k_ ≠ (.slice Ao106 y187.length co106 : Value).ownBlock) v179 t178) := ⟨by (with_reducible repeat (first | apply Kd.R_alloc | apply Kd.R_drewN | apply Kd.R_drew)); exact Kd.R_mono (Kd.R_far (p := ⟨gb193, 1, none⟩) (Kd.R_far (p := ⟨gb193, 0, none⟩) (Kd.R_types HO180.out BK193.out (by decide)) (fun _ hk => hk.2) (.int .i64 t190)) (fun _ hk => hk.2) (.int .i64 t191)) (fun _ hk => ⟨hk.1.1.1, ⟨hk.1.1.2.1, ⟨hk.1.1.2.2.1, ⟨hk.1.1.2.2.2, hk.1.2⟩⟩⟩⟩)⟩
           have n5_ : Aside0 (Kd.R (Kd.int .i64) 3 ((w108.setCell ⟨gb193, 0, none⟩ (.int .i64 t190)).setCell ⟨gb193, 1, none⟩ (.int .i64 t191)) w.heap.size (fun k_ => some k_ ≠ (.slice Ao58 t129.length co58 : Value).ownBlock ∧ some k_ ≠ (.slice Ao66 t145.length co66 : Value).ownBlock ∧ some k_ ≠ (.slice Ao75 t161.length co75 : Value).ownBlock ∧ some k_ ≠ (.slice Ao85 t171.length co85 : Value).ownBlock ∧ some k_ ≠ (v179 : Value).ownBlock) (.slice Ao106 y187.length co106) y187) := ⟨by (with_reducible repeat (first | apply Kd.R_alloc | apply Kd.R_drewN | apply Kd.R_drew)); exact Kd.R_mono (Kd.R_far (p := ⟨gb193, 1, none⟩) (Kd.R_far (p := ⟨gb193, 0, none⟩) (Kd.R_types HO189.out BK193.out (by decide)) (fun _ hk => hk.2) (.int .i64 t190)) (fun _ hk => hk.2) (.int .i64 t191)) (fun _ hk => ⟨hk.1.1.1.1.1.2, ⟨hk.1.1.1.1.2, ⟨hk.1.1.1.2, ⟨hk.1.1.2, hk.1.2⟩⟩⟩⟩)⟩
           have n6_ : Aside0 (((w108.setCell ⟨gb193, 0, none⟩ (.int .i64 t190)).setCell ⟨gb193, 1, none⟩ (.int .i64 t191)).heap[gb118]? = some (.cells #[.int .i64 t107, .int .i64 t108, .int .i64 t109, .int .i64 t110, .int .i64 t111, .int .i64 t112, .int .i64 t113, .int .i64 31, .int .i64 t115] 25 (0, 0))) := ⟨by (with_reducible repeat (first | refine blk_drewN ?_ _ | refine blk_drew ?_ | refine blk_alloc ?_ _)); refine blk_far ?_ NB118_193.out _; (with_reducible repeat (first | refine blk_drewN ?_ _ | refine blk_drew ?_ | refine blk_alloc ?_ _)); refine blk_far ?_ NB118_193.out _; (with_reducible repeat (first | refine blk_drewN ?_ _ | refine blk_drew ?_ | refine blk_alloc ?_ _)); exact BK118.out⟩
           have n7_ : Aside0 (((w108.setCell ⟨gb193, 0, none⟩ (.int .i64 t190)).setCell ⟨gb193, 1, none⟩ (.int .i64 t191)).heap[gb119]? = some (.cells #[.int .i64 t116, .int .i64 0] 48 (0, 0))) := ⟨by (with_reducible repeat (first | refine blk_drewN ?_ _ | refine blk_drew ?_ | refine blk_alloc ?_ _)); refine blk_far ?_ NB119_193.out _; (with_reducible repeat (first | refine blk_drewN ?_ _ | refine blk_drew ?_ | refine blk_alloc ?_ _)); refine blk_far ?_ NB119_193.out _; (with_reducible repeat (first | refine blk_drewN ?_ _ | refine blk_drew ?_ | refine blk_alloc ?_ _)); exact BK119.out⟩
           have n8_ : Aside0 (((w108.setCell ⟨gb193, 0, none⟩ (.int .i64 t190)).setCell ⟨gb193, 1, none⟩ (.int .i64 t191)).heap[gb135]? = some (.cells #[.int .i64 t132, .int .i64 t133] 23 (0, 0))) := ⟨by (with_reducible repeat (first | refine blk_drewN ?_ _ | refine blk_drew ?_ | refine blk_alloc ?_ _)); refine blk_far ?_ NB135_193.out _; (with_reducible repeat (first | refine blk_drewN ?_ _ | refine blk_drew ?_ | refine blk_alloc ?_ _)); refine blk_far ?_ NB135_193.out _; (with_reducible repeat (first | refine blk_drewN ?_ _ | refine blk_drew ?_ | refine blk_alloc ?_ _)); exact BK135.out⟩
           have n9_ : Aside0 (((w108.setCell ⟨gb193, 0, none⟩ (.int .i64 t190)).setCell ⟨gb193, 1, none⟩ (.int .i64 t191)).heap[gb151]? = some (.cells #[.int .i64 t148, .int .i64 t149] 23 (0, 0))) := ⟨by (with_reducible repeat (first | refine blk_drewN ?_ _ | refine blk_drew ?_ | refine blk_alloc ?_ _)); refine blk_far ?_ NB151_193.out _; (with_reducible repeat (first | refine blk_drewN ?_ _ | refine blk_drew ?_ | refine blk_alloc ?_ _)); refine blk_far ?_ NB151_193.out _; (with_reducible repeat (first | refine blk_drewN ?_ _ | refine blk_drew ?_ | refine blk_alloc ?_ _)); exact BK151.out⟩
           have n10_ : Aside0 (((w108.setCell ⟨gb193, 0, none⟩ (.int .i64 t190)).setCell ⟨gb193, 1, none⟩ (.int .i64 t191)).heap[gb168]? = some (.cells #[.int .i64 t164, .int .i64 t165] 23 (0, 0))) := ⟨by (with_reducible repeat (first | refine blk_drewN ?_ _ | refine blk_drew ?_ | refine blk_alloc ?_ _)); refine blk_far ?_ NB168_193.out _; (with_reducible repeat (first | refine blk_drewN ?_ _ | refine blk_drew ?_ | refine blk_alloc ?_ _)); refine blk_far ?_ NB168_193.out _; (with_reducible repeat (first | refine blk_drewN ?_ _ | refine blk_drew ?_ | refine blk_alloc ?_ _)); exact BK168.out⟩
           have n11_ : Aside0 (((w108.setCell ⟨gb193, 0, none⟩ (.int .i64 t190)).setCell ⟨gb193, 1, none⟩ (.int .i64 t191)).heap[gb177]? = some (.cells #[.int .i64 t174, .int .i64 t175] 23 (0, 0))) := ⟨by (with_reducible repeat (first | refine blk_drewN ?_ _ | refine blk_drew ?_ | refine blk_alloc ?_ _)); refine blk_far ?_ NB177_193.out _; (with_reducible repeat (first | refine blk_drewN ?_ _ | refine blk_drew ?_ | refine blk_alloc ?_ _)); refine blk_far ?_ NB177_193.out _; (with_reducible repeat (first | refine blk_drewN ?_ _ | refine blk_drew ?_ | refine blk_alloc ?_ _)); exact BK177.out⟩
           have n12_ : Aside0 (((w108.setCell ⟨gb193, 0, none⟩ (.int .i64 t190)).setCell ⟨gb193, 1, none⟩ (.int .i64 t191)).heap[gb184]? = some (.cells #[.int .i64 t181, .int .i64 t182] 23 (0, 0))) := ⟨by (with_reducible repeat (first | refine blk_drewN ?_ _ | refine blk_drew ?_ | refine blk_alloc ?_ _)); refine blk_far ?_ NB184_193.out _; (with_reducible repeat (first | refine blk_drewN ?_ _ | refine blk_drew ?_ | refine blk_alloc ?_ _)); refine blk_far ?_ NB184_193.out _; (with_reducible repeat (first | refine blk_drewN ?_ _ | refine blk_drew ?_ | refine blk_alloc ?_ _)); exact BK184.out⟩
           have n13_ : Aside0 (((w108.setCell ⟨gb193, 0, none⟩ (.int .i64 t190)).setCell ⟨gb193, 1, none⟩ (.int .i64 t191)).heap[gb193]? = some (.cells #[.int .i64 t190, .int .i64 t191] 23 (0, 0))) := ⟨by (with_reducible repeat (first | refine blk_drewN ?_ _ | refine blk_drew ?_ | refine blk_alloc ?_ _)); refine blk_put (cs := #[.int .i64 t190, .int .i64 0]) ?_ 1 _ rfl; (with_reducible repeat (first | refine blk_drewN ?_ _ | refine blk_drew ?_ | refine blk_alloc ?_ _)); refine blk_put (cs := #[.int .i64 0, .int .i64 0]) ?_ 0 _ rfl; (with_reducible repeat (first | refine blk_drewN ?_ _ | refine blk_drew ?_ | refine blk_alloc ?_ _)); exact BK193.out⟩
           have n14_ : Aside0 (Below w.heap.size w ((w108.setCell ⟨gb193, 0, none⟩ (.int .i64 t190)).setCell ⟨gb193, 1, none⟩ (.int .i64 t191))) := ⟨by repeat (first | (with_reducible first | exact HB.out | apply below_alloc | apply pw_below_drewN | apply below_drew1 | refine below_set ?_ GE118.out | refine below_set ?_ GE119.out | refine below_set ?_ GE135.out | refine below_set ?_ GE151.out | refine below_set ?_ GE168.out | refine below_set ?_ GE177.out | refine below_set ?_ GE184.out | refine below_set ?_ GE193.out) | exact HB.out)⟩
           (try clear HO131)
           (try clear HO147)
           (try clear HO163)
           (try clear HO173)
           (try clear HO180)
           (try clear HO189)
           (try clear BK118)
           (try clear BK119)
           (try clear BK135)
           (try clear BK151)
           (try clear BK168)
           (try clear BK177)
           (try clear BK184)
           (try clear BK193)
           (try clear HB)
           generalize ((w108.setCell ⟨gb193, 0, none⟩ (.int .i64 t190)).setCell ⟨gb193, 1, none⟩ (.int .i64 t191)) = w117 at n0_ n1_ n2_ n3_ n4_ n5_ n6_ n7_ n8_ n9_ n10_ n11_ n12_ n13_ n14_ ⊢
           have HO131 := n0_
           have HO147 := n1_
           have HO163 := n2_
           have HO173 := n3_
           have HO180 := n4_
           have HO189 := n5_
           have BK118 := n6_
           have BK119 := n7_
           have BK135 := n8_
           have BK151 := n9_
           have BK168 := n10_
           have BK177 := n11_
           have BK184 := n12_
           have BK193 := n13_
           have HB := n14_
           clear n0_ n1_ n2_ n3_ n4_ n5_ n6_ n7_ n8_ n9_ n10_ n11_ n12_ n13_ n14_
           have n0_ := A_ (Kd.R_drew HO131.out)
           have n1_ := A_ (Kd.R_drew HO147.out)
           have n2_ := A_ (Kd.R_drew HO163.out)
           have n3_ := A_ (Kd.R_drew HO173.out)
           have n4_ := A_ (Kd.R_drew HO180.out)
           have n5_ := A_ (Kd.R_drew HO189.out)
           have n6_ := A_ (blk_drew BK118.out)
           have n7_ := A_ (blk_drew BK119.out)
           have n8_ := A_ (blk_drew BK135.out)
           have n9_ := A_ (blk_drew BK151.out)
           have n10_ := A_ (blk_drew BK168.out)
           have n11_ := A_ (blk_drew BK177.out)
           have n12_ := A_ (blk_drew BK184.out)
           have n13_ := A_ (blk_drew BK193.out)
           have n14_ := A_ (below_drew1 HB.out)
           clear HO131
           clear HO147
           clear HO163
           clear HO173
           clear HO180
           clear HO189
           clear BK118
           clear BK119
           clear BK135
           clear BK151
           clear BK168
           clear BK177
           clear BK184
           clear BK193
           clear HB
           have HO131 := n0_
           have HO147 := n1_
           have HO163 := n2_
           have HO173 := n3_
           have HO180 := n4_
           have HO189 := n5_
           have BK118 := n6_
           have BK119 := n7_
           have BK135 := n8_
           have BK151 := n9_
           have BK168 := n10_
           have BK177 := n11_
           have BK184 := n12_
           have BK193 := n13_
           have HB := n14_
           clear n0_ n1_ n2_ n3_ n4_ n5_ n6_ n7_ n8_ n9_ n10_ n11_ n12_ n13_ n14_
           refine start_ (n := 35) (S := fun w' => True) (ds := []) #[false, false, false, false, false, false, false, false, false, false, false, false, false, false, false, false, false, false, false, false, false, false, false, false, false, false, false, false, false, false, false, false, false, false, false] (by kernel_rfl) rfl rfl trivial (fun hHeld => ?_); refine with_tabW cottonpadlaw04_BurnExamples.tab12 cottonpadlaw04_BurnExamples.bits12 (fun HT_ HW_ => ?_)
           generalize w117.drew = w118 at HO131 HO147 HO163 HO173 HO180 HO189 BK118 BK119 BK135 BK151 BK168 BK177 BK184 BK193 HB hHeld ⊢
           refine pure_ (i := 0) (N := some 82) (v := ?_) (a' := ?_) #[true, false, false, false, false, false, false, false, false, false, false, false, false, false, false, false, false, false, false, false, false, false, false, false, false, false, false, false, false, false, false, false, false, false, false] rfl rfl (any_of HT_.out (by kernel_rfl)) (fun _ _ _ h => h) (Or.inl ⟨by rfl, ?_⟩) ?_ ?_
           rotate_left
           ·
            intro w'
            go_simp
            with_reducible rfl
           rotate_left
           ·
            simp only [Act.put, sT_, s0_, sS_, i64_w, i32_w]
            rfl
           refine inv_at [1, 2, 3, 4, 5, 6, 7, 8, 9, 10, 11, 12, 13, 14, 15, 16, 17, 18, 19, 20, 21, 22, 23, 24, 25, 26, 27, 28, 29, 30, 31, 32, 33, 34] (fun a0_ b a w' => ∃ (v195 : Value) (v208 : Value), a = putSel a0_ b [(1, 83, .bool (t134 == 2)), (2, 84, .bool (t134 == 2)), (3, 85, .int .i64 t150), (4, 86, .bool (t150 == 2)), (5, 87, .bool (t150 == 2)), (6, 88, .bool (t150 == 2)), (7, 89, .int .i64 t167), (8, 90, .bool (t167 == 2)), (9, 91, .bool (t167 == 2)), (10, 92, .bool (t167 == 2)), (11, 93, .int .i64 t176), (12, 94, .bool (t176 == 2)), (13, 95, .bool (t176 == 2)), (14, 96, .bool (t176 == 2)), (15, 97, .int .i64 t183), (16, 98, .bool (t183 == 42)), (17, 99, .bool (t183 == 42)), (18, 100, .bool (t183 == 42)), (19, 101, .int .i64 t192), (20, 102, .bool (t192 == 41)), (21, 103, .bool (t192 == 41)), (22, 104, .bool (t192 == 41)), (23, 105, .agg #[.int .i64 t107, .int .i64 t108, .int .i64 t109, .int .i64 t110, .int .i64 t111, .int .i64 t112, .int .i64 t113, .int .i64 31, .int .i64 t115]), (24, 106, v195), (25, 107, .int .i64 t197), (26, 108, .bool (t197 == 40)), (27, 109, .bool (t197 == 40)), (28, 110, .bool (t197 == 40)), (29, 111, .agg #[.int .i64 t198, .int .i64 t199, .int .i64 t200, .int .i64 t201, .int .i64 t202, .int .i64 t203, .int .i64 t204, .int .i64 t205, .int .i64 t206]), (30, 112, v208), (31, 113, .int .i64 t210), (32, 114, .bool (t210 == 41)), (33, 115, .bool (t210 == 41)), (34, 0, .bool (t210 == 41))] ∧ (Kd.R (Kd.int .i64) 3 w' w.heap.size (fun k_ => some k_ ≠ (.slice Ao66 t145.length co66 : Value).ownBlock ∧ some k_ ≠ (.slice Ao75 t161.length co75 : Value).ownBlock ∧ some k_ ≠ (.slice Ao85 t171.length co85 : Value).ownBlock ∧ some k_ ≠ (v179 : Value).ownBlock ∧ some k_ ≠ (.slice Ao106 y187.length co106 : Value).ownBlock) (.slice Ao58 t129.length co58) t129) ∧ (Kd.R (Kd.int .i64) 3 w' w.heap.size (fun k_ => some k_ ≠ (.slice Ao58 t129.length co58 : Value).ownBlock ∧ some k_ ≠ (.slice Ao75 t161.length co75 : Value).ownBlock ∧ some k_ ≠ (.slice Ao85 t171.length co85 : Value).ownBlock ∧ some k_ ≠ (v179 : Value).ownBlock ∧ some k_ ≠ (.slice Ao106 y187.length co106 : Value).ownBlock) (.slice Ao66 t145.length co66) t145) ∧ (Kd.R (Kd.int .i64) 3 w' w.heap.size (fun k_ => some k_ ≠ (.slice Ao58 t129.length co58 : Value).ownBlock ∧ some k_ ≠ (.slice Ao66 t145.length co66 : Value).ownBlock ∧ some k_ ≠ (.slice Ao85 t171.length co85 : Value).ownBlock ∧ some k_ ≠ (v179 : Value).ownBlock ∧ some k_ ≠ (.slice Ao106 y187.length co106 : Value).ownBlock) (.slice Ao75 t161.length co75) t161) ∧ (Kd.R (Kd.int .i64) 3 w' w.heap.size (fun k_ => some k_ ≠ (.slice Ao58 t129.length co58 : Value).ownBlock ∧ some k_ ≠ (.slice Ao66 t145.length co66 : Value).ownBlock ∧ some k_ ≠ (.slice Ao75 t161.length co75 : Value).ownBlock ∧ some k_ ≠ (v179 : Value).ownBlock ∧ some k_ ≠ (.slice Ao106 y187.length co106 : Value).ownBlock) (.slice Ao85 t171.length co85) t171) ∧ (Kd.R (Kd.int .i64) 3 w' w.heap.size (fun k_ => some k_ ≠ (.slice Ao58 t129.length co58 : Value).ownBlock ∧ some k_ ≠ (.slice Ao66 t145.length co66 : Value).ownBlock ∧ some k_ ≠ (.slice Ao75 t161.length co75 : Value).ownBlock ∧ some k_ ≠ (.slice Ao85 t171.length co85 : Value).ownBlock ∧ some k_ ≠ (.slice Ao106 y187.length co106 : Value).ownBlock) v179 t178) ∧ (Kd.R (Kd.int .i64) 3 w' w.heap.size (fun k_ => some k_ ≠ (.slice Ao58 t129.length co58 : Value).ownBlock ∧ some k_ ≠ (.slice Ao66 t145.length co66 : Value).ownBlock ∧ some k_ ≠ (.slice Ao75 t161.length co75 : Value).ownBlock ∧ some k_ ≠ (.slice Ao85 t171.length co85 : Value).ownBlock ∧ some k_ ≠ (v179 : Value).ownBlock) (.slice Ao106 y187.length co106) y187) ∧ (w'.heap[gb118]? = some (.cells #[.int .i64 t107, .int .i64 t108, .int .i64 t109, .int .i64 t110, .int .i64 t111, .int .i64 t112, .int .i64 t113, .int .i64 31, .int .i64 t115] 25 (0, 0))) ∧ (w'.heap[gb119]? = some (.cells #[.int .i64 t116, .int .i64 0] 48 (0, 0))) ∧ (w'.heap[gb135]? = some (.cells #[.int .i64 t132, .int .i64 t133] 23 (0, 0))) ∧ (w'.heap[gb151]? = some (.cells #[.int .i64 t148, .int .i64 t149] 23 (0, 0))) ∧ (w'.heap[gb168]? = some (.cells #[.int .i64 t164, .int .i64 t165] 23 (0, 0))) ∧ (w'.heap[gb177]? = some (.cells #[.int .i64 t174, .int .i64 t175] 23 (0, 0))) ∧ (w'.heap[gb184]? = some (.cells #[.int .i64 t181, .int .i64 t182] 23 (0, 0))) ∧ (w'.heap[gb193]? = some (.cells #[.int .i64 t190, .int .i64 t191] 23 (0, 0))) ∧ (Below w.heap.size w w') ∧ (b 24 = true → Kd.R (Kd.int .i64) 3 w' w.heap.size (fun k_ => some k_ ≠ (.slice Ao58 t129.length co58 : Value).ownBlock ∧ some k_ ≠ (.slice Ao66 t145.length co66 : Value).ownBlock ∧ some k_ ≠ (.slice Ao75 t161.length co75 : Value).ownBlock ∧ some k_ ≠ (.slice Ao85 t171.length co85 : Value).ownBlock ∧ some k_ ≠ (v179 : Value).ownBlock ∧ some k_ ≠ (.slice Ao106 y187.length co106 : Value).ownBlock) v195 t194) ∧ (b 30 = true → Kd.R (Kd.int .i64) 3 w' w.heap.size (fun k_ => some k_ ≠ (.slice Ao58 t129.length co58 : Value).ownBlock ∧ some k_ ≠ (.slice Ao66 t145.length co66 : Value).ownBlock ∧ some k_ ≠ (.slice Ao75 t161.length co75 : Value).ownBlock ∧ some k_ ≠ (.slice Ao85 t171.length co85 : Value).ownBlock ∧ some k_ ≠ (v179 : Value).ownBlock ∧ some k_ ≠ (.slice Ao106 y187.length co106 : Value).ownBlock) v208 y207)) HT_.out HW_.out (by kernel_rfl) (by kernel_rfl) ?_ ?_ ?_
           ·
            exact ⟨.bool false, .bool false, by simp only [putSel, Bool.false_eq_true, if_false], HO131.out, HO147.out, HO163.out, HO173.out, HO180.out, HO189.out, BK118.out, BK119.out, BK135.out, BK151.out, BK168.out, BK177.out, BK184.out, BK193.out, HB.out, fun h_ => absurd h_ (by decide), fun h_ => absurd h_ (by decide)⟩
           ·
            skip
            clear BK118 BK119 BK135 BK151 BK168 BK177 BK184 BK193 HB HO131 HO147 HO163 HO173 HO180 HO189
            refine steps_cons ?_ ?_
            ·
             rintro b a w' ⟨v195, v208, ha, Q_HO131, Q_HO147, Q_HO163, Q_HO173, Q_HO180, Q_HO189, Q_BK118, Q_BK119, Q_BK135, Q_BK151, Q_BK168, Q_BK177, Q_BK184, Q_BK193, Q_HB, Q_HO196, Q_HO209⟩ hb_ hon hoff
             refine ⟨_, rfl, fun K hK => ?_⟩
             have e82 : a.tmps[82]? = some (.int .i64 t134) := by rw [ha]; exact (putSel_off rfl).trans rfl
             replace ha := A_ ha
             have HO131 := A_ Q_HO131
             have HO147 := A_ Q_HO147
             have HO163 := A_ Q_HO163
             have HO173 := A_ Q_HO173
             have HO180 := A_ Q_HO180
             have HO189 := A_ Q_HO189
             have BK118 := A_ Q_BK118
             have BK119 := A_ Q_BK119
             have BK135 := A_ Q_BK135
             have BK151 := A_ Q_BK151
             have BK168 := A_ Q_BK168
             have BK177 := A_ Q_BK177
             have BK184 := A_ Q_BK184
             have BK193 := A_ Q_BK193
             have HB := A_ Q_HB
             refine value_ (w1 := w') (v := .bool (t134 == 2)) (by rfl) rfl ?_ ?_
             ·
              go_simp
              (try simp only [i64_w])
              try rfl
             refine hK.out _ _ ⟨v195, v208, (by rw [ha.out]; exact putSel_upk 0 hb_ rfl rfl rfl), Q_HO131, Q_HO147, Q_HO163, Q_HO173, Q_HO180, Q_HO189, Q_BK118, Q_BK119, Q_BK135, Q_BK151, Q_BK168, Q_BK177, Q_BK184, Q_BK193, Q_HB, fun h0_ => absurd ((hoff 24 (by kernel_rfl)).symm.trans h0_) (by decide), fun h0_ => absurd ((hoff 30 (by kernel_rfl)).symm.trans h0_) (by decide)⟩
            refine steps_cons ?_ ?_
            ·
             rintro b a w' ⟨v195, v208, ha, Q_HO131, Q_HO147, Q_HO163, Q_HO173, Q_HO180, Q_HO189, Q_BK118, Q_BK119, Q_BK135, Q_BK151, Q_BK168, Q_BK177, Q_BK184, Q_BK193, Q_HB, Q_HO196, Q_HO209⟩ hb_ hon hoff
             refine ⟨_, rfl, fun K hK => ?_⟩
             have e83 : a.tmps[83]? = some (.bool (t134 == 2)) := by rw [ha]; exact putSel_on (e := (1, 83, .bool (t134 == 2))) 0 rfl rfl (hon 1 (by kernel_rfl)) rfl
             replace ha := A_ ha
             have HO131 := A_ Q_HO131
             have HO147 := A_ Q_HO147
             have HO163 := A_ Q_HO163
             have HO173 := A_ Q_HO173
             have HO180 := A_ Q_HO180
             have HO189 := A_ Q_HO189
             have BK118 := A_ Q_BK118
             have BK119 := A_ Q_BK119
             have BK135 := A_ Q_BK135
             have BK151 := A_ Q_BK151
             have BK168 := A_ Q_BK168
             have BK177 := A_ Q_BK177
             have BK184 := A_ Q_BK184
             have BK193 := A_ Q_BK193
             have HB := A_ Q_HB
             refine value_ (w1 := w') (v := .bool (t134 == 2)) (by rfl) rfl ?_ ?_
             ·
              go_simp
              (try simp only [i64_w])
              try rfl
             refine hK.out _ _ ⟨v195, v208, (by rw [ha.out]; exact putSel_upk 1 hb_ rfl rfl rfl), Q_HO131, Q_HO147, Q_HO163, Q_HO173, Q_HO180, Q_HO189, Q_BK118, Q_BK119, Q_BK135, Q_BK151, Q_BK168, Q_BK177, Q_BK184, Q_BK193, Q_HB, fun h0_ => absurd ((hoff 24 (by kernel_rfl)).symm.trans h0_) (by decide), fun h0_ => absurd ((hoff 30 (by kernel_rfl)).symm.trans h0_) (by decide)⟩
            refine steps_cons ?_ ?_
            ·
             rintro b a w' ⟨v195, v208, ha, Q_HO131, Q_HO147, Q_HO163, Q_HO173, Q_HO180, Q_HO189, Q_BK118, Q_BK119, Q_BK135, Q_BK151, Q_BK168, Q_BK177, Q_BK184, Q_BK193, Q_HB, Q_HO196, Q_HO209⟩ hb_ hon hoff
             refine ⟨_, rfl, fun K hK => ?_⟩
             have e6 : a.tmps[6]? = some (.int .i64 t150) := by rw [ha]; exact (putSel_off rfl).trans rfl
             have e84 : a.tmps[84]? = some (.bool (t134 == 2)) := by rw [ha]; exact putSel_on (e := (2, 84, .bool (t134 == 2))) 1 rfl rfl (hon 2 (by kernel_rfl)) rfl
             replace ha := A_ ha
             have HO131 := A_ Q_HO131
             have HO147 := A_ Q_HO147
             have HO163 := A_ Q_HO163
             have HO173 := A_ Q_HO173
             have HO180 := A_ Q_HO180
             have HO189 := A_ Q_HO189
             have BK118 := A_ Q_BK118
             have BK119 := A_ Q_BK119
             have BK135 := A_ Q_BK135
             have BK151 := A_ Q_BK151
             have BK168 := A_ Q_BK168
             have BK177 := A_ Q_BK177
             have BK184 := A_ Q_BK184
             have BK193 := A_ Q_BK193
             have HB := A_ Q_HB
             refine value_ (w1 := w') (v := .int .i64 t150) (wanted_on rfl rfl rfl (e84.trans (by first | rfl | (simp [*]; done)))) rfl ?_ ?_
             ·
              go_simp
              (try simp only [i64_w])
              try rfl
             refine hK.out _ _ ⟨v195, v208, (by rw [ha.out]; exact putSel_upk 2 hb_ rfl rfl rfl), Q_HO131, Q_HO147, Q_HO163, Q_HO173, Q_HO180, Q_HO189, Q_BK118, Q_BK119, Q_BK135, Q_BK151, Q_BK168, Q_BK177, Q_BK184, Q_BK193, Q_HB, fun h0_ => absurd ((hoff 24 (by kernel_rfl)).symm.trans h0_) (by decide), fun h0_ => absurd ((hoff 30 (by kernel_rfl)).symm.trans h0_) (by decide)⟩
            refine steps_cons ?_ ?_
            ·
             rintro b a w' ⟨v195, v208, ha, Q_HO131, Q_HO147, Q_HO163, Q_HO173, Q_HO180, Q_HO189, Q_BK118, Q_BK119, Q_BK135, Q_BK151, Q_BK168, Q_BK177, Q_BK184, Q_BK193, Q_HB, Q_HO196, Q_HO209⟩ hb_ hon hoff
             refine ⟨_, rfl, fun K hK => ?_⟩
             have e85 : a.tmps[85]? = some (.int .i64 t150) := by rw [ha]; exact putSel_on (e := (3, 85, .int .i64 t150)) 2 rfl rfl (hon 3 (by kernel_rfl)) rfl
             have e84 : a.tmps[84]? = some (.bool (t134 == 2)) := by rw [ha]; exact putSel_on (e := (2, 84, .bool (t134 == 2))) 1 rfl rfl (hon 2 (by kernel_rfl)) rfl
             replace ha := A_ ha
             have HO131 := A_ Q_HO131
             have HO147 := A_ Q_HO147
             have HO163 := A_ Q_HO163
             have HO173 := A_ Q_HO173
             have HO180 := A_ Q_HO180
             have HO189 := A_ Q_HO189
             have BK118 := A_ Q_BK118
             have BK119 := A_ Q_BK119
             have BK135 := A_ Q_BK135
             have BK151 := A_ Q_BK151
             have BK168 := A_ Q_BK168
             have BK177 := A_ Q_BK177
             have BK184 := A_ Q_BK184
             have BK193 := A_ Q_BK193
             have HB := A_ Q_HB
             refine value_ (w1 := w') (v := .bool (t150 == 2)) (wanted_on rfl rfl rfl (e84.trans (by first | rfl | (simp [*]; done)))) rfl ?_ ?_
             ·
              go_simp
              (try simp only [i64_w])
              try rfl
             refine hK.out _ _ ⟨v195, v208, (by rw [ha.out]; exact putSel_upk 3 hb_ rfl rfl rfl), Q_HO131, Q_HO147, Q_HO163, Q_HO173, Q_HO180, Q_HO189, Q_BK118, Q_BK119, Q_BK135, Q_BK151, Q_BK168, Q_BK177, Q_BK184, Q_BK193, Q_HB, fun h0_ => absurd ((hoff 24 (by kernel_rfl)).symm.trans h0_) (by decide), fun h0_ => absurd ((hoff 30 (by kernel_rfl)).symm.trans h0_) (by decide)⟩
            refine steps_cons ?_ ?_
            ·
             rintro b a w' ⟨v195, v208, ha, Q_HO131, Q_HO147, Q_HO163, Q_HO173, Q_HO180, Q_HO189, Q_BK118, Q_BK119, Q_BK135, Q_BK151, Q_BK168, Q_BK177, Q_BK184, Q_BK193, Q_HB, Q_HO196, Q_HO209⟩ hb_ hon hoff
             refine ⟨_, rfl, fun K hK => ?_⟩
             have e84 : a.tmps[84]? = some (.bool (t134 == 2)) := by rw [ha]; exact putSel_on (e := (2, 84, .bool (t134 == 2))) 1 rfl rfl (hon 2 (by kernel_rfl)) rfl
             have e86 : a.tmps[86]? = some (.bool (t150 == 2)) := by rw [ha]; exact putSel_on (e := (4, 86, .bool (t150 == 2))) 3 rfl rfl (hon 4 (by kernel_rfl)) rfl
             replace ha := A_ ha
             have HO131 := A_ Q_HO131
             have HO147 := A_ Q_HO147
             have HO163 := A_ Q_HO163
             have HO173 := A_ Q_HO173
             have HO180 := A_ Q_HO180
             have HO189 := A_ Q_HO189
             have BK118 := A_ Q_BK118
             have BK119 := A_ Q_BK119
             have BK135 := A_ Q_BK135
             have BK151 := A_ Q_BK151
             have BK168 := A_ Q_BK168
             have BK177 := A_ Q_BK177
             have BK184 := A_ Q_BK184
             have BK193 := A_ Q_BK193
             have HB := A_ Q_HB
             refine value_ (w1 := w') (v := .bool (t150 == 2)) (by rfl) rfl ?_ ?_
             ·
              go_simp
              (try simp only [i64_w])
              try rfl
             refine hK.out _ _ ⟨v195, v208, (by rw [ha.out]; exact putSel_upk 4 hb_ rfl rfl rfl), Q_HO131, Q_HO147, Q_HO163, Q_HO173, Q_HO180, Q_HO189, Q_BK118, Q_BK119, Q_BK135, Q_BK151, Q_BK168, Q_BK177, Q_BK184, Q_BK193, Q_HB, fun h0_ => absurd ((hoff 24 (by kernel_rfl)).symm.trans h0_) (by decide), fun h0_ => absurd ((hoff 30 (by kernel_rfl)).symm.trans h0_) (by decide)⟩
            refine steps_cons ?_ ?_
            ·
             rintro b a w' ⟨v195, v208, ha, Q_HO131, Q_HO147, Q_HO163, Q_HO173, Q_HO180, Q_HO189, Q_BK118, Q_BK119, Q_BK135, Q_BK151, Q_BK168, Q_BK177, Q_BK184, Q_BK193, Q_HB, Q_HO196, Q_HO209⟩ hb_ hon hoff
             refine ⟨_, rfl, fun K hK => ?_⟩
             have e87 : a.tmps[87]? = some (.bool (t150 == 2)) := by rw [ha]; exact putSel_on (e := (5, 87, .bool (t150 == 2))) 4 rfl rfl (hon 5 (by kernel_rfl)) rfl
             replace ha := A_ ha
             have HO131 := A_ Q_HO131
             have HO147 := A_ Q_HO147
             have HO163 := A_ Q_HO163
             have HO173 := A_ Q_HO173
             have HO180 := A_ Q_HO180
             have HO189 := A_ Q_HO189
             have BK118 := A_ Q_BK118
             have BK119 := A_ Q_BK119
             have BK135 := A_ Q_BK135
             have BK151 := A_ Q_BK151
             have BK168 := A_ Q_BK168
             have BK177 := A_ Q_BK177
             have BK184 := A_ Q_BK184
             have BK193 := A_ Q_BK193
             have HB := A_ Q_HB
             refine value_ (w1 := w') (v := .bool (t150 == 2)) (by rfl) rfl ?_ ?_
             ·
              go_simp
              (try simp only [i64_w])
              try rfl
             refine hK.out _ _ ⟨v195, v208, (by rw [ha.out]; exact putSel_upk 5 hb_ rfl rfl rfl), Q_HO131, Q_HO147, Q_HO163, Q_HO173, Q_HO180, Q_HO189, Q_BK118, Q_BK119, Q_BK135, Q_BK151, Q_BK168, Q_BK177, Q_BK184, Q_BK193, Q_HB, fun h0_ => absurd ((hoff 24 (by kernel_rfl)).symm.trans h0_) (by decide), fun h0_ => absurd ((hoff 30 (by kernel_rfl)).symm.trans h0_) (by decide)⟩
            refine steps_cons ?_ ?_
            ·
             rintro b a w' ⟨v195, v208, ha, Q_HO131, Q_HO147, Q_HO163, Q_HO173, Q_HO180, Q_HO189, Q_BK118, Q_BK119, Q_BK135, Q_BK151, Q_BK168, Q_BK177, Q_BK184, Q_BK193, Q_HB, Q_HO196, Q_HO209⟩ hb_ hon hoff
             refine ⟨_, rfl, fun K hK => ?_⟩
             have e9 : a.tmps[9]? = some (.int .i64 t167) := by rw [ha]; exact (putSel_off rfl).trans rfl
             have e88 : a.tmps[88]? = some (.bool (t150 == 2)) := by rw [ha]; exact putSel_on (e := (6, 88, .bool (t150 == 2))) 5 rfl rfl (hon 6 (by kernel_rfl)) rfl
             replace ha := A_ ha
             have HO131 := A_ Q_HO131
             have HO147 := A_ Q_HO147
             have HO163 := A_ Q_HO163
             have HO173 := A_ Q_HO173
             have HO180 := A_ Q_HO180
             have HO189 := A_ Q_HO189
             have BK118 := A_ Q_BK118
             have BK119 := A_ Q_BK119
             have BK135 := A_ Q_BK135
             have BK151 := A_ Q_BK151
             have BK168 := A_ Q_BK168
             have BK177 := A_ Q_BK177
             have BK184 := A_ Q_BK184
             have BK193 := A_ Q_BK193
             have HB := A_ Q_HB
             refine value_ (w1 := w') (v := .int .i64 t167) (wanted_on rfl rfl rfl (e88.trans (by first | rfl | (simp [*]; done)))) rfl ?_ ?_
             ·
              go_simp
              (try simp only [i64_w])
              try rfl
             refine hK.out _ _ ⟨v195, v208, (by rw [ha.out]; exact putSel_upk 6 hb_ rfl rfl rfl), Q_HO131, Q_HO147, Q_HO163, Q_HO173, Q_HO180, Q_HO189, Q_BK118, Q_BK119, Q_BK135, Q_BK151, Q_BK168, Q_BK177, Q_BK184, Q_BK193, Q_HB, fun h0_ => absurd ((hoff 24 (by kernel_rfl)).symm.trans h0_) (by decide), fun h0_ => absurd ((hoff 30 (by kernel_rfl)).symm.trans h0_) (by decide)⟩
            refine steps_cons ?_ ?_
            ·
             rintro b a w' ⟨v195, v208, ha, Q_HO131, Q_HO147, Q_HO163, Q_HO173, Q_HO180, Q_HO189, Q_BK118, Q_BK119, Q_BK135, Q_BK151, Q_BK168, Q_BK177, Q_BK184, Q_BK193, Q_HB, Q_HO196, Q_HO209⟩ hb_ hon hoff
             refine ⟨_, rfl, fun K hK => ?_⟩
             have e89 : a.tmps[89]? = some (.int .i64 t167) := by rw [ha]; exact putSel_on (e := (7, 89, .int .i64 t167)) 6 rfl rfl (hon 7 (by kernel_rfl)) rfl
             have e88 : a.tmps[88]? = some (.bool (t150 == 2)) := by rw [ha]; exact putSel_on (e := (6, 88, .bool (t150 == 2))) 5 rfl rfl (hon 6 (by kernel_rfl)) rfl
             replace ha := A_ ha
             have HO131 := A_ Q_HO131
             have HO147 := A_ Q_HO147
             have HO163 := A_ Q_HO163
             have HO173 := A_ Q_HO173
             have HO180 := A_ Q_HO180
             have HO189 := A_ Q_HO189
             have BK118 := A_ Q_BK118
             have BK119 := A_ Q_BK119
             have BK135 := A_ Q_BK135
             have BK151 := A_ Q_BK151
             have BK168 := A_ Q_BK168
             have BK177 := A_ Q_BK177
             have BK184 := A_ Q_BK184
             have BK193 := A_ Q_BK193
             have HB := A_ Q_HB
             refine value_ (w1 := w') (v := .bool (t167 == 2)) (wanted_on rfl rfl rfl (e88.trans (by first | rfl | (simp [*]; done)))) rfl ?_ ?_
             ·
              go_simp
              (try simp only [i64_w])
              try rfl
             refine hK.out _ _ ⟨v195, v208, (by rw [ha.out]; exact putSel_upk 7 hb_ rfl rfl rfl), Q_HO131, Q_HO147, Q_HO163, Q_HO173, Q_HO180, Q_HO189, Q_BK118, Q_BK119, Q_BK135, Q_BK151, Q_BK168, Q_BK177, Q_BK184, Q_BK193, Q_HB, fun h0_ => absurd ((hoff 24 (by kernel_rfl)).symm.trans h0_) (by decide), fun h0_ => absurd ((hoff 30 (by kernel_rfl)).symm.trans h0_) (by decide)⟩
            refine steps_cons ?_ ?_
            ·
             rintro b a w' ⟨v195, v208, ha, Q_HO131, Q_HO147, Q_HO163, Q_HO173, Q_HO180, Q_HO189, Q_BK118, Q_BK119, Q_BK135, Q_BK151, Q_BK168, Q_BK177, Q_BK184, Q_BK193, Q_HB, Q_HO196, Q_HO209⟩ hb_ hon hoff
             refine ⟨_, rfl, fun K hK => ?_⟩
             have e88 : a.tmps[88]? = some (.bool (t150 == 2)) := by rw [ha]; exact putSel_on (e := (6, 88, .bool (t150 == 2))) 5 rfl rfl (hon 6 (by kernel_rfl)) rfl
             have e90 : a.tmps[90]? = some (.bool (t167 == 2)) := by rw [ha]; exact putSel_on (e := (8, 90, .bool (t167 == 2))) 7 rfl rfl (hon 8 (by kernel_rfl)) rfl
             replace ha := A_ ha
             have HO131 := A_ Q_HO131
             have HO147 := A_ Q_HO147
             have HO163 := A_ Q_HO163
             have HO173 := A_ Q_HO173
             have HO180 := A_ Q_HO180
             have HO189 := A_ Q_HO189
             have BK118 := A_ Q_BK118
             have BK119 := A_ Q_BK119
             have BK135 := A_ Q_BK135
             have BK151 := A_ Q_BK151
             have BK168 := A_ Q_BK168
             have BK177 := A_ Q_BK177
             have BK184 := A_ Q_BK184
             have BK193 := A_ Q_BK193
             have HB := A_ Q_HB
             refine value_ (w1 := w') (v := .bool (t167 == 2)) (by rfl) rfl ?_ ?_
             ·
              go_simp
              (try simp only [i64_w])
              try rfl
             refine hK.out _ _ ⟨v195, v208, (by rw [ha.out]; exact putSel_upk 8 hb_ rfl rfl rfl), Q_HO131, Q_HO147, Q_HO163, Q_HO173, Q_HO180, Q_HO189, Q_BK118, Q_BK119, Q_BK135, Q_BK151, Q_BK168, Q_BK177, Q_BK184, Q_BK193, Q_HB, fun h0_ => absurd ((hoff 24 (by kernel_rfl)).symm.trans h0_) (by decide), fun h0_ => absurd ((hoff 30 (by kernel_rfl)).symm.trans h0_) (by decide)⟩
            refine steps_cons ?_ ?_
            ·
             rintro b a w' ⟨v195, v208, ha, Q_HO131, Q_HO147, Q_HO163, Q_HO173, Q_HO180, Q_HO189, Q_BK118, Q_BK119, Q_BK135, Q_BK151, Q_BK168, Q_BK177, Q_BK184, Q_BK193, Q_HB, Q_HO196, Q_HO209⟩ hb_ hon hoff
             refine ⟨_, rfl, fun K hK => ?_⟩
             have e91 : a.tmps[91]? = some (.bool (t167 == 2)) := by rw [ha]; exact putSel_on (e := (9, 91, .bool (t167 == 2))) 8 rfl rfl (hon 9 (by kernel_rfl)) rfl
             replace ha := A_ ha
             have HO131 := A_ Q_HO131
             have HO147 := A_ Q_HO147
             have HO163 := A_ Q_HO163
             have HO173 := A_ Q_HO173
             have HO180 := A_ Q_HO180
             have HO189 := A_ Q_HO189
             have BK118 := A_ Q_BK118
             have BK119 := A_ Q_BK119
             have BK135 := A_ Q_BK135
             have BK151 := A_ Q_BK151
             have BK168 := A_ Q_BK168
             have BK177 := A_ Q_BK177
             have BK184 := A_ Q_BK184
             have BK193 := A_ Q_BK193
             have HB := A_ Q_HB
             refine value_ (w1 := w') (v := .bool (t167 == 2)) (by rfl) rfl ?_ ?_
             ·
              go_simp
              (try simp only [i64_w])
              try rfl
             refine hK.out _ _ ⟨v195, v208, (by rw [ha.out]; exact putSel_upk 9 hb_ rfl rfl rfl), Q_HO131, Q_HO147, Q_HO163, Q_HO173, Q_HO180, Q_HO189, Q_BK118, Q_BK119, Q_BK135, Q_BK151, Q_BK168, Q_BK177, Q_BK184, Q_BK193, Q_HB, fun h0_ => absurd ((hoff 24 (by kernel_rfl)).symm.trans h0_) (by decide), fun h0_ => absurd ((hoff 30 (by kernel_rfl)).symm.trans h0_) (by decide)⟩
            refine steps_cons ?_ ?_
            ·
             rintro b a w' ⟨v195, v208, ha, Q_HO131, Q_HO147, Q_HO163, Q_HO173, Q_HO180, Q_HO189, Q_BK118, Q_BK119, Q_BK135, Q_BK151, Q_BK168, Q_BK177, Q_BK184, Q_BK193, Q_HB, Q_HO196, Q_HO209⟩ hb_ hon hoff
             refine ⟨_, rfl, fun K hK => ?_⟩
             have e11 : a.tmps[11]? = some (.int .i64 t176) := by rw [ha]; exact (putSel_off rfl).trans rfl
             have e92 : a.tmps[92]? = some (.bool (t167 == 2)) := by rw [ha]; exact putSel_on (e := (10, 92, .bool (t167 == 2))) 9 rfl rfl (hon 10 (by kernel_rfl)) rfl
             replace ha := A_ ha
             have HO131 := A_ Q_HO131
             have HO147 := A_ Q_HO147
             have HO163 := A_ Q_HO163
             have HO173 := A_ Q_HO173
             have HO180 := A_ Q_HO180
             have HO189 := A_ Q_HO189
             have BK118 := A_ Q_BK118
             have BK119 := A_ Q_BK119
             have BK135 := A_ Q_BK135
             have BK151 := A_ Q_BK151
             have BK168 := A_ Q_BK168
             have BK177 := A_ Q_BK177
             have BK184 := A_ Q_BK184
             have BK193 := A_ Q_BK193
             have HB := A_ Q_HB
             refine value_ (w1 := w') (v := .int .i64 t176) (wanted_on rfl rfl rfl (e92.trans (by first | rfl | (simp [*]; done)))) rfl ?_ ?_
             ·
              go_simp
              (try simp only [i64_w])
              try rfl
             refine hK.out _ _ ⟨v195, v208, (by rw [ha.out]; exact putSel_upk 10 hb_ rfl rfl rfl), Q_HO131, Q_HO147, Q_HO163, Q_HO173, Q_HO180, Q_HO189, Q_BK118, Q_BK119, Q_BK135, Q_BK151, Q_BK168, Q_BK177, Q_BK184, Q_BK193, Q_HB, fun h0_ => absurd ((hoff 24 (by kernel_rfl)).symm.trans h0_) (by decide), fun h0_ => absurd ((hoff 30 (by kernel_rfl)).symm.trans h0_) (by decide)⟩
            refine steps_cons ?_ ?_
            ·
             rintro b a w' ⟨v195, v208, ha, Q_HO131, Q_HO147, Q_HO163, Q_HO173, Q_HO180, Q_HO189, Q_BK118, Q_BK119, Q_BK135, Q_BK151, Q_BK168, Q_BK177, Q_BK184, Q_BK193, Q_HB, Q_HO196, Q_HO209⟩ hb_ hon hoff
             refine ⟨_, rfl, fun K hK => ?_⟩
             have e93 : a.tmps[93]? = some (.int .i64 t176) := by rw [ha]; exact putSel_on (e := (11, 93, .int .i64 t176)) 10 rfl rfl (hon 11 (by kernel_rfl)) rfl
             have e92 : a.tmps[92]? = some (.bool (t167 == 2)) := by rw [ha]; exact putSel_on (e := (10, 92, .bool (t167 == 2))) 9 rfl rfl (hon 10 (by kernel_rfl)) rfl
             replace ha := A_ ha
             have HO131 := A_ Q_HO131
             have HO147 := A_ Q_HO147
             have HO163 := A_ Q_HO163
             have HO173 := A_ Q_HO173
             have HO180 := A_ Q_HO180
             have HO189 := A_ Q_HO189
             have BK118 := A_ Q_BK118
             have BK119 := A_ Q_BK119
             have BK135 := A_ Q_BK135
             have BK151 := A_ Q_BK151
             have BK168 := A_ Q_BK168
             have BK177 := A_ Q_BK177
             have BK184 := A_ Q_BK184
             have BK193 := A_ Q_BK193
             have HB := A_ Q_HB
             refine value_ (w1 := w') (v := .bool (t176 == 2)) (wanted_on rfl rfl rfl (e92.trans (by first | rfl | (simp [*]; done)))) rfl ?_ ?_
             ·
              go_simp
              (try simp only [i64_w])
              try rfl
             refine hK.out _ _ ⟨v195, v208, (by rw [ha.out]; exact putSel_upk 11 hb_ rfl rfl rfl), Q_HO131, Q_HO147, Q_HO163, Q_HO173, Q_HO180, Q_HO189, Q_BK118, Q_BK119, Q_BK135, Q_BK151, Q_BK168, Q_BK177, Q_BK184, Q_BK193, Q_HB, fun h0_ => absurd ((hoff 24 (by kernel_rfl)).symm.trans h0_) (by decide), fun h0_ => absurd ((hoff 30 (by kernel_rfl)).symm.trans h0_) (by decide)⟩
            refine steps_cons ?_ ?_
            ·
             rintro b a w' ⟨v195, v208, ha, Q_HO131, Q_HO147, Q_HO163, Q_HO173, Q_HO180, Q_HO189, Q_BK118, Q_BK119, Q_BK135, Q_BK151, Q_BK168, Q_BK177, Q_BK184, Q_BK193, Q_HB, Q_HO196, Q_HO209⟩ hb_ hon hoff
             refine ⟨_, rfl, fun K hK => ?_⟩
             have e92 : a.tmps[92]? = some (.bool (t167 == 2)) := by rw [ha]; exact putSel_on (e := (10, 92, .bool (t167 == 2))) 9 rfl rfl (hon 10 (by kernel_rfl)) rfl
             have e94 : a.tmps[94]? = some (.bool (t176 == 2)) := by rw [ha]; exact putSel_on (e := (12, 94, .bool (t176 == 2))) 11 rfl rfl (hon 12 (by kernel_rfl)) rfl
             replace ha := A_ ha
             have HO131 := A_ Q_HO131
             have HO147 := A_ Q_HO147
             have HO163 := A_ Q_HO163
             have HO173 := A_ Q_HO173
             have HO180 := A_ Q_HO180
             have HO189 := A_ Q_HO189
             have BK118 := A_ Q_BK118
             have BK119 := A_ Q_BK119
             have BK135 := A_ Q_BK135
             have BK151 := A_ Q_BK151
             have BK168 := A_ Q_BK168
             have BK177 := A_ Q_BK177
             have BK184 := A_ Q_BK184
             have BK193 := A_ Q_BK193
             have HB := A_ Q_HB
             refine value_ (w1 := w') (v := .bool (t176 == 2)) (by rfl) rfl ?_ ?_
             ·
              go_simp
              (try simp only [i64_w])
              try rfl
             refine hK.out _ _ ⟨v195, v208, (by rw [ha.out]; exact putSel_upk 12 hb_ rfl rfl rfl), Q_HO131, Q_HO147, Q_HO163, Q_HO173, Q_HO180, Q_HO189, Q_BK118, Q_BK119, Q_BK135, Q_BK151, Q_BK168, Q_BK177, Q_BK184, Q_BK193, Q_HB, fun h0_ => absurd ((hoff 24 (by kernel_rfl)).symm.trans h0_) (by decide), fun h0_ => absurd ((hoff 30 (by kernel_rfl)).symm.trans h0_) (by decide)⟩
            refine steps_cons ?_ ?_
            ·
             rintro b a w' ⟨v195, v208, ha, Q_HO131, Q_HO147, Q_HO163, Q_HO173, Q_HO180, Q_HO189, Q_BK118, Q_BK119, Q_BK135, Q_BK151, Q_BK168, Q_BK177, Q_BK184, Q_BK193, Q_HB, Q_HO196, Q_HO209⟩ hb_ hon hoff
             refine ⟨_, rfl, fun K hK => ?_⟩
             have e95 : a.tmps[95]? = some (.bool (t176 == 2)) := by rw [ha]; exact putSel_on (e := (13, 95, .bool (t176 == 2))) 12 rfl rfl (hon 13 (by kernel_rfl)) rfl
             replace ha := A_ ha
             have HO131 := A_ Q_HO131
             have HO147 := A_ Q_HO147
             have HO163 := A_ Q_HO163
             have HO173 := A_ Q_HO173
             have HO180 := A_ Q_HO180
             have HO189 := A_ Q_HO189
             have BK118 := A_ Q_BK118
             have BK119 := A_ Q_BK119
             have BK135 := A_ Q_BK135
             have BK151 := A_ Q_BK151
             have BK168 := A_ Q_BK168
             have BK177 := A_ Q_BK177
             have BK184 := A_ Q_BK184
             have BK193 := A_ Q_BK193
             have HB := A_ Q_HB
             refine value_ (w1 := w') (v := .bool (t176 == 2)) (by rfl) rfl ?_ ?_
             ·
              go_simp
              (try simp only [i64_w])
              try rfl
             refine hK.out _ _ ⟨v195, v208, (by rw [ha.out]; exact putSel_upk 13 hb_ rfl rfl rfl), Q_HO131, Q_HO147, Q_HO163, Q_HO173, Q_HO180, Q_HO189, Q_BK118, Q_BK119, Q_BK135, Q_BK151, Q_BK168, Q_BK177, Q_BK184, Q_BK193, Q_HB, fun h0_ => absurd ((hoff 24 (by kernel_rfl)).symm.trans h0_) (by decide), fun h0_ => absurd ((hoff 30 (by kernel_rfl)).symm.trans h0_) (by decide)⟩
            refine steps_cons ?_ ?_
            ·
             rintro b a w' ⟨v195, v208, ha, Q_HO131, Q_HO147, Q_HO163, Q_HO173, Q_HO180, Q_HO189, Q_BK118, Q_BK119, Q_BK135, Q_BK151, Q_BK168, Q_BK177, Q_BK184, Q_BK193, Q_HB, Q_HO196, Q_HO209⟩ hb_ hon hoff
             refine ⟨_, rfl, fun K hK => ?_⟩
             have e13 : a.tmps[13]? = some (.int .i64 t183) := by rw [ha]; exact (putSel_off rfl).trans rfl
             have e96 : a.tmps[96]? = some (.bool (t176 == 2)) := by rw [ha]; exact putSel_on (e := (14, 96, .bool (t176 == 2))) 13 rfl rfl (hon 14 (by kernel_rfl)) rfl
             replace ha := A_ ha
             have HO131 := A_ Q_HO131
             have HO147 := A_ Q_HO147
             have HO163 := A_ Q_HO163
             have HO173 := A_ Q_HO173
             have HO180 := A_ Q_HO180
             have HO189 := A_ Q_HO189
             have BK118 := A_ Q_BK118
             have BK119 := A_ Q_BK119
             have BK135 := A_ Q_BK135
             have BK151 := A_ Q_BK151
             have BK168 := A_ Q_BK168
             have BK177 := A_ Q_BK177
             have BK184 := A_ Q_BK184
             have BK193 := A_ Q_BK193
             have HB := A_ Q_HB
             refine value_ (w1 := w') (v := .int .i64 t183) (wanted_on rfl rfl rfl (e96.trans (by first | rfl | (simp [*]; done)))) rfl ?_ ?_
             ·
              go_simp
              (try simp only [i64_w])
              try rfl
             refine hK.out _ _ ⟨v195, v208, (by rw [ha.out]; exact putSel_upk 14 hb_ rfl rfl rfl), Q_HO131, Q_HO147, Q_HO163, Q_HO173, Q_HO180, Q_HO189, Q_BK118, Q_BK119, Q_BK135, Q_BK151, Q_BK168, Q_BK177, Q_BK184, Q_BK193, Q_HB, fun h0_ => absurd ((hoff 24 (by kernel_rfl)).symm.trans h0_) (by decide), fun h0_ => absurd ((hoff 30 (by kernel_rfl)).symm.trans h0_) (by decide)⟩
            refine steps_cons ?_ ?_
            ·
             rintro b a w' ⟨v195, v208, ha, Q_HO131, Q_HO147, Q_HO163, Q_HO173, Q_HO180, Q_HO189, Q_BK118, Q_BK119, Q_BK135, Q_BK151, Q_BK168, Q_BK177, Q_BK184, Q_BK193, Q_HB, Q_HO196, Q_HO209⟩ hb_ hon hoff
             refine ⟨_, rfl, fun K hK => ?_⟩
             have e97 : a.tmps[97]? = some (.int .i64 t183) := by rw [ha]; exact putSel_on (e := (15, 97, .int .i64 t183)) 14 rfl rfl (hon 15 (by kernel_rfl)) rfl
             have e96 : a.tmps[96]? = some (.bool (t176 == 2)) := by rw [ha]; exact putSel_on (e := (14, 96, .bool (t176 == 2))) 13 rfl rfl (hon 14 (by kernel_rfl)) rfl
             replace ha := A_ ha
             have HO131 := A_ Q_HO131
             have HO147 := A_ Q_HO147
             have HO163 := A_ Q_HO163
             have HO173 := A_ Q_HO173
             have HO180 := A_ Q_HO180
             have HO189 := A_ Q_HO189
             have BK118 := A_ Q_BK118
             have BK119 := A_ Q_BK119
             have BK135 := A_ Q_BK135
             have BK151 := A_ Q_BK151
             have BK168 := A_ Q_BK168
             have BK177 := A_ Q_BK177
             have BK184 := A_ Q_BK184
             have BK193 := A_ Q_BK193
             have HB := A_ Q_HB
             refine value_ (w1 := w') (v := .bool (t183 == 42)) (wanted_on rfl rfl rfl (e96.trans (by first | rfl | (simp [*]; done)))) rfl ?_ ?_
             ·
              go_simp
              (try simp only [i64_w])
              try rfl
             refine hK.out _ _ ⟨v195, v208, (by rw [ha.out]; exact putSel_upk 15 hb_ rfl rfl rfl), Q_HO131, Q_HO147, Q_HO163, Q_HO173, Q_HO180, Q_HO189, Q_BK118, Q_BK119, Q_BK135, Q_BK151, Q_BK168, Q_BK177, Q_BK184, Q_BK193, Q_HB, fun h0_ => absurd ((hoff 24 (by kernel_rfl)).symm.trans h0_) (by decide), fun h0_ => absurd ((hoff 30 (by kernel_rfl)).symm.trans h0_) (by decide)⟩
            refine steps_cons ?_ ?_
            ·
             rintro b a w' ⟨v195, v208, ha, Q_HO131, Q_HO147, Q_HO163, Q_HO173, Q_HO180, Q_HO189, Q_BK118, Q_BK119, Q_BK135, Q_BK151, Q_BK168, Q_BK177, Q_BK184, Q_BK193, Q_HB, Q_HO196, Q_HO209⟩ hb_ hon hoff
             refine ⟨_, rfl, fun K hK => ?_⟩
             have e96 : a.tmps[96]? = some (.bool (t176 == 2)) := by rw [ha]; exact putSel_on (e := (14, 96, .bool (t176 == 2))) 13 rfl rfl (hon 14 (by kernel_rfl)) rfl
             have e98 : a.tmps[98]? = some (.bool (t183 == 42)) := by rw [ha]; exact putSel_on (e := (16, 98, .bool (t183 == 42))) 15 rfl rfl (hon 16 (by kernel_rfl)) rfl
             replace ha := A_ ha
             have HO131 := A_ Q_HO131
             have HO147 := A_ Q_HO147
             have HO163 := A_ Q_HO163
             have HO173 := A_ Q_HO173
             have HO180 := A_ Q_HO180
             have HO189 := A_ Q_HO189
             have BK118 := A_ Q_BK118
             have BK119 := A_ Q_BK119
             have BK135 := A_ Q_BK135
             have BK151 := A_ Q_BK151
             have BK168 := A_ Q_BK168
             have BK177 := A_ Q_BK177
             have BK184 := A_ Q_BK184
             have BK193 := A_ Q_BK193
             have HB := A_ Q_HB
             refine value_ (w1 := w') (v := .bool (t183 == 42)) (by rfl) rfl ?_ ?_
             ·
              go_simp
              (try simp only [i64_w])
              try rfl
             refine hK.out _ _ ⟨v195, v208, (by rw [ha.out]; exact putSel_upk 16 hb_ rfl rfl rfl), Q_HO131, Q_HO147, Q_HO163, Q_HO173, Q_HO180, Q_HO189, Q_BK118, Q_BK119, Q_BK135, Q_BK151, Q_BK168, Q_BK177, Q_BK184, Q_BK193, Q_HB, fun h0_ => absurd ((hoff 24 (by kernel_rfl)).symm.trans h0_) (by decide), fun h0_ => absurd ((hoff 30 (by kernel_rfl)).symm.trans h0_) (by decide)⟩
            refine steps_cons ?_ ?_
            ·
             rintro b a w' ⟨v195, v208, ha, Q_HO131, Q_HO147, Q_HO163, Q_HO173, Q_HO180, Q_HO189, Q_BK118, Q_BK119, Q_BK135, Q_BK151, Q_BK168, Q_BK177, Q_BK184, Q_BK193, Q_HB, Q_HO196, Q_HO209⟩ hb_ hon hoff
             refine ⟨_, rfl, fun K hK => ?_⟩
             have e99 : a.tmps[99]? = some (.bool (t183 == 42)) := by rw [ha]; exact putSel_on (e := (17, 99, .bool (t183 == 42))) 16 rfl rfl (hon 17 (by kernel_rfl)) rfl
             replace ha := A_ ha
             have HO131 := A_ Q_HO131
             have HO147 := A_ Q_HO147
             have HO163 := A_ Q_HO163
             have HO173 := A_ Q_HO173
             have HO180 := A_ Q_HO180
             have HO189 := A_ Q_HO189
             have BK118 := A_ Q_BK118
             have BK119 := A_ Q_BK119
             have BK135 := A_ Q_BK135
             have BK151 := A_ Q_BK151
             have BK168 := A_ Q_BK168
             have BK177 := A_ Q_BK177
             have BK184 := A_ Q_BK184
             have BK193 := A_ Q_BK193
             have HB := A_ Q_HB
             refine value_ (w1 := w') (v := .bool (t183 == 42)) (by rfl) rfl ?_ ?_
             ·
              go_simp
              (try simp only [i64_w])
              try rfl
             refine hK.out _ _ ⟨v195, v208, (by rw [ha.out]; exact putSel_upk 17 hb_ rfl rfl rfl), Q_HO131, Q_HO147, Q_HO163, Q_HO173, Q_HO180, Q_HO189, Q_BK118, Q_BK119, Q_BK135, Q_BK151, Q_BK168, Q_BK177, Q_BK184, Q_BK193, Q_HB, fun h0_ => absurd ((hoff 24 (by kernel_rfl)).symm.trans h0_) (by decide), fun h0_ => absurd ((hoff 30 (by kernel_rfl)).symm.trans h0_) (by decide)⟩
            refine steps_cons ?_ ?_
            ·
             rintro b a w' ⟨v195, v208, ha, Q_HO131, Q_HO147, Q_HO163, Q_HO173, Q_HO180, Q_HO189, Q_BK118, Q_BK119, Q_BK135, Q_BK151, Q_BK168, Q_BK177, Q_BK184, Q_BK193, Q_HB, Q_HO196, Q_HO209⟩ hb_ hon hoff
             refine ⟨_, rfl, fun K hK => ?_⟩
             have e15 : a.tmps[15]? = some (.int .i64 t192) := by rw [ha]; exact (putSel_off rfl).trans rfl
             have e100 : a.tmps[100]? = some (.bool (t183 == 42)) := by rw [ha]; exact putSel_on (e := (18, 100, .bool (t183 == 42))) 17 rfl rfl (hon 18 (by kernel_rfl)) rfl
             replace ha := A_ ha
             have HO131 := A_ Q_HO131
             have HO147 := A_ Q_HO147
             have HO163 := A_ Q_HO163
             have HO173 := A_ Q_HO173
             have HO180 := A_ Q_HO180
             have HO189 := A_ Q_HO189
             have BK118 := A_ Q_BK118
             have BK119 := A_ Q_BK119
             have BK135 := A_ Q_BK135
             have BK151 := A_ Q_BK151
             have BK168 := A_ Q_BK168
             have BK177 := A_ Q_BK177
             have BK184 := A_ Q_BK184
             have BK193 := A_ Q_BK193
             have HB := A_ Q_HB
             refine value_ (w1 := w') (v := .int .i64 t192) (wanted_on rfl rfl rfl (e100.trans (by first | rfl | (simp [*]; done)))) rfl ?_ ?_
             ·
              go_simp
              (try simp only [i64_w])
              try rfl
             refine hK.out _ _ ⟨v195, v208, (by rw [ha.out]; exact putSel_upk 18 hb_ rfl rfl rfl), Q_HO131, Q_HO147, Q_HO163, Q_HO173, Q_HO180, Q_HO189, Q_BK118, Q_BK119, Q_BK135, Q_BK151, Q_BK168, Q_BK177, Q_BK184, Q_BK193, Q_HB, fun h0_ => absurd ((hoff 24 (by kernel_rfl)).symm.trans h0_) (by decide), fun h0_ => absurd ((hoff 30 (by kernel_rfl)).symm.trans h0_) (by decide)⟩
            refine steps_cons ?_ ?_
            ·
             rintro b a w' ⟨v195, v208, ha, Q_HO131, Q_HO147, Q_HO163, Q_HO173, Q_HO180, Q_HO189, Q_BK118, Q_BK119, Q_BK135, Q_BK151, Q_BK168, Q_BK177, Q_BK184, Q_BK193, Q_HB, Q_HO196, Q_HO209⟩ hb_ hon hoff
             refine ⟨_, rfl, fun K hK => ?_⟩
             have e101 : a.tmps[101]? = some (.int .i64 t192) := by rw [ha]; exact putSel_on (e := (19, 101, .int .i64 t192)) 18 rfl rfl (hon 19 (by kernel_rfl)) rfl
             have e100 : a.tmps[100]? = some (.bool (t183 == 42)) := by rw [ha]; exact putSel_on (e := (18, 100, .bool (t183 == 42))) 17 rfl rfl (hon 18 (by kernel_rfl)) rfl
             replace ha := A_ ha
             have HO131 := A_ Q_HO131
             have HO147 := A_ Q_HO147
             have HO163 := A_ Q_HO163
             have HO173 := A_ Q_HO173
             have HO180 := A_ Q_HO180
             have HO189 := A_ Q_HO189
             have BK118 := A_ Q_BK118
             have BK119 := A_ Q_BK119
             have BK135 := A_ Q_BK135
             have BK151 := A_ Q_BK151
             have BK168 := A_ Q_BK168
             have BK177 := A_ Q_BK177
             have BK184 := A_ Q_BK184
             have BK193 := A_ Q_BK193
             have HB := A_ Q_HB
             refine value_ (w1 := w') (v := .bool (t192 == 41)) (wanted_on rfl rfl rfl (e100.trans (by first | rfl | (simp [*]; done)))) rfl ?_ ?_
             ·
              go_simp
              (try simp only [i64_w])
              try rfl
             refine hK.out _ _ ⟨v195, v208, (by rw [ha.out]; exact putSel_upk 19 hb_ rfl rfl rfl), Q_HO131, Q_HO147, Q_HO163, Q_HO173, Q_HO180, Q_HO189, Q_BK118, Q_BK119, Q_BK135, Q_BK151, Q_BK168, Q_BK177, Q_BK184, Q_BK193, Q_HB, fun h0_ => absurd ((hoff 24 (by kernel_rfl)).symm.trans h0_) (by decide), fun h0_ => absurd ((hoff 30 (by kernel_rfl)).symm.trans h0_) (by decide)⟩
            refine steps_cons ?_ ?_
            ·
             rintro b a w' ⟨v195, v208, ha, Q_HO131, Q_HO147, Q_HO163, Q_HO173, Q_HO180, Q_HO189, Q_BK118, Q_BK119, Q_BK135, Q_BK151, Q_BK168, Q_BK177, Q_BK184, Q_BK193, Q_HB, Q_HO196, Q_HO209⟩ hb_ hon hoff
             refine ⟨_, rfl, fun K hK => ?_⟩
             have e100 : a.tmps[100]? = some (.bool (t183 == 42)) := by rw [ha]; exact putSel_on (e := (18, 100, .bool (t183 == 42))) 17 rfl rfl (hon 18 (by kernel_rfl)) rfl
             have e102 : a.tmps[102]? = some (.bool (t192 == 41)) := by rw [ha]; exact putSel_on (e := (20, 102, .bool (t192 == 41))) 19 rfl rfl (hon 20 (by kernel_rfl)) rfl
             replace ha := A_ ha
             have HO131 := A_ Q_HO131
             have HO147 := A_ Q_HO147
             have HO163 := A_ Q_HO163
             have HO173 := A_ Q_HO173
             have HO180 := A_ Q_HO180
             have HO189 := A_ Q_HO189
             have BK118 := A_ Q_BK118
             have BK119 := A_ Q_BK119
             have BK135 := A_ Q_BK135
             have BK151 := A_ Q_BK151
             have BK168 := A_ Q_BK168
             have BK177 := A_ Q_BK177
             have BK184 := A_ Q_BK184
             have BK193 := A_ Q_BK193
             have HB := A_ Q_HB
             refine value_ (w1 := w') (v := .bool (t192 == 41)) (by rfl) rfl ?_ ?_
             ·
              go_simp
              (try simp only [i64_w])
              try rfl
             refine hK.out _ _ ⟨v195, v208, (by rw [ha.out]; exact putSel_upk 20 hb_ rfl rfl rfl), Q_HO131, Q_HO147, Q_HO163, Q_HO173, Q_HO180, Q_HO189, Q_BK118, Q_BK119, Q_BK135, Q_BK151, Q_BK168, Q_BK177, Q_BK184, Q_BK193, Q_HB, fun h0_ => absurd ((hoff 24 (by kernel_rfl)).symm.trans h0_) (by decide), fun h0_ => absurd ((hoff 30 (by kernel_rfl)).symm.trans h0_) (by decide)⟩
            refine steps_cons ?_ ?_
            ·
             rintro b a w' ⟨v195, v208, ha, Q_HO131, Q_HO147, Q_HO163, Q_HO173, Q_HO180, Q_HO189, Q_BK118, Q_BK119, Q_BK135, Q_BK151, Q_BK168, Q_BK177, Q_BK184, Q_BK193, Q_HB, Q_HO196, Q_HO209⟩ hb_ hon hoff
             refine ⟨_, rfl, fun K hK => ?_⟩
             have e103 : a.tmps[103]? = some (.bool (t192 == 41)) := by rw [ha]; exact putSel_on (e := (21, 103, .bool (t192 == 41))) 20 rfl rfl (hon 21 (by kernel_rfl)) rfl
             replace ha := A_ ha
             have HO131 := A_ Q_HO131
             have HO147 := A_ Q_HO147
             have HO163 := A_ Q_HO163
             have HO173 := A_ Q_HO173
             have HO180 := A_ Q_HO180
             have HO189 := A_ Q_HO189
             have BK118 := A_ Q_BK118
             have BK119 := A_ Q_BK119
             have BK135 := A_ Q_BK135
             have BK151 := A_ Q_BK151
             have BK168 := A_ Q_BK168
             have BK177 := A_ Q_BK177
             have BK184 := A_ Q_BK184
             have BK193 := A_ Q_BK193
             have HB := A_ Q_HB
             refine value_ (w1 := w') (v := .bool (t192 == 41)) (by rfl) rfl ?_ ?_
             ·
              go_simp
              (try simp only [i64_w])
              try rfl
             refine hK.out _ _ ⟨v195, v208, (by rw [ha.out]; exact putSel_upk 21 hb_ rfl rfl rfl), Q_HO131, Q_HO147, Q_HO163, Q_HO173, Q_HO180, Q_HO189, Q_BK118, Q_BK119, Q_BK135, Q_BK151, Q_BK168, Q_BK177, Q_BK184, Q_BK193, Q_HB, fun h0_ => absurd ((hoff 24 (by kernel_rfl)).symm.trans h0_) (by decide), fun h0_ => absurd ((hoff 30 (by kernel_rfl)).symm.trans h0_) (by decide)⟩
            refine steps_cons ?_ ?_
            ·
             rintro b a w' ⟨v195, v208, ha, Q_HO131, Q_HO147, Q_HO163, Q_HO173, Q_HO180, Q_HO189, Q_BK118, Q_BK119, Q_BK135, Q_BK151, Q_BK168, Q_BK177, Q_BK184, Q_BK193, Q_HB, Q_HO196, Q_HO209⟩ hb_ hon hoff
             refine ⟨_, rfl, fun K hK => ?_⟩
             have e1 : a.tmps[1]? = some (.pointer (some ⟨gb118, 0, none⟩)) := by rw [ha]; exact (putSel_off rfl).trans rfl
             have e104 : a.tmps[104]? = some (.bool (t192 == 41)) := by rw [ha]; exact putSel_on (e := (22, 104, .bool (t192 == 41))) 21 rfl rfl (hon 22 (by kernel_rfl)) rfl
             replace ha := A_ ha
             have HO131 := A_ Q_HO131
             have HO147 := A_ Q_HO147
             have HO163 := A_ Q_HO163
             have HO173 := A_ Q_HO173
             have HO180 := A_ Q_HO180
             have HO189 := A_ Q_HO189
             have BK118 := A_ Q_BK118
             have BK119 := A_ Q_BK119
             have BK135 := A_ Q_BK135
             have BK151 := A_ Q_BK151
             have BK168 := A_ Q_BK168
             have BK177 := A_ Q_BK177
             have BK184 := A_ Q_BK184
             have BK193 := A_ Q_BK193
             have HB := A_ Q_HB
             have hc0_ : w'.cell? ⟨gb118, 0, none⟩ = some (.int .i64 t107) := (blk_cell BK118.out 0).trans rfl
             have hc1_ : w'.cell? ⟨gb118, 1, none⟩ = some (.int .i64 t108) := (blk_cell BK118.out 1).trans rfl
             have hc2_ : w'.cell? ⟨gb118, 2, none⟩ = some (.int .i64 t109) := (blk_cell BK118.out 2).trans rfl
             have hc3_ : w'.cell? ⟨gb118, 3, none⟩ = some (.int .i64 t110) := (blk_cell BK118.out 3).trans rfl
             have hc4_ : w'.cell? ⟨gb118, 4, none⟩ = some (.int .i64 t111) := (blk_cell BK118.out 4).trans rfl
             have hc5_ : w'.cell? ⟨gb118, 5, none⟩ = some (.int .i64 t112) := (blk_cell BK118.out 5).trans rfl
             have hc6_ : w'.cell? ⟨gb118, 6, none⟩ = some (.int .i64 t113) := (blk_cell BK118.out 6).trans rfl
             have hc7_ : w'.cell? ⟨gb118, 7, none⟩ = some (.int .i64 31) := (blk_cell BK118.out 7).trans rfl
             have hc8_ : w'.cell? ⟨gb118, 8, none⟩ = some (.int .i64 t115) := (blk_cell BK118.out 8).trans rfl
             refine value_ (w1 := w') (v := .agg #[.int .i64 t107, .int .i64 t108, .int .i64 t109, .int .i64 t110, .int .i64 t111, .int .i64 t112, .int .i64 t113, .int .i64 31, .int .i64 t115]) (wanted_on rfl rfl rfl (e104.trans (by first | rfl | (simp [*]; done)))) rfl ?_ ?_
             ·
              go_simp
              (try simp only [i64_w])
              try rfl
             refine hK.out _ _ ⟨v195, v208, (by rw [ha.out]; exact putSel_upk 22 hb_ rfl rfl rfl), Q_HO131, Q_HO147, Q_HO163, Q_HO173, Q_HO180, Q_HO189, Q_BK118, Q_BK119, Q_BK135, Q_BK151, Q_BK168, Q_BK177, Q_BK184, Q_BK193, Q_HB, Q_HO196, fun h0_ => absurd ((hoff 30 (by kernel_rfl)).symm.trans h0_) (by decide)⟩
            refine steps_cons ?_ ?_
            ·
             rintro b a w' ⟨v195, v208, ha, Q_HO131, Q_HO147, Q_HO163, Q_HO173, Q_HO180, Q_HO189, Q_BK118, Q_BK119, Q_BK135, Q_BK151, Q_BK168, Q_BK177, Q_BK184, Q_BK193, Q_HB, Q_HO196, Q_HO209⟩ hb_ hon hoff
             refine ⟨_, rfl, fun K hK => ?_⟩
             have e104 : a.tmps[104]? = some (.bool (t192 == 41)) := by rw [ha]; exact putSel_on (e := (22, 104, .bool (t192 == 41))) 21 rfl rfl (hon 22 (by kernel_rfl)) rfl
             replace ha := A_ ha
             have HO131 := A_ Q_HO131
             have HO147 := A_ Q_HO147
             have HO163 := A_ Q_HO163
             have HO173 := A_ Q_HO173
             have HO180 := A_ Q_HO180
             have HO189 := A_ Q_HO189
             have BK118 := A_ Q_BK118
             have BK119 := A_ Q_BK119
             have BK135 := A_ Q_BK135
             have BK151 := A_ Q_BK151
             have BK168 := A_ Q_BK168
             have BK177 := A_ Q_BK177
             have BK184 := A_ Q_BK184
             have BK193 := A_ Q_BK193
             have HB := A_ Q_HB
             refine goes_ Tryd.func26 (by kernel_rfl) rfl #[] (by first | rfl | exact wanted_on rfl rfl rfl (e104.trans (by first | rfl | (simp [*]; done)))) rfl rfl (by first | (simp only [List.map_toArray, List.map_cons, List.map_nil, Act.eval, Array.getD_eq_getD_getElem?, Option.getD_some, e104]; done) | (simp only [List.map_toArray, List.map_cons, List.map_nil, Act.eval, Array.getD_eq_getD_getElem?, Option.getD_some, e104]; rfl)) ?_
             with_reducible refine (cottonpadlaw04_reads.calls  t194 _ A44.out).mono ?_
             rintro e w119 ⟨v195, rfl, ho0, hb⟩
             refine ⟨_, rfl, ?_⟩
             have n0_ := A_ (Kd.R_elder' (kr_ HO131.out) (Kd.R_base ho0) hb)
             have n1_ := A_ (Kd.R_elder' (kr_ HO147.out) (Kd.R_base ho0) hb)
             have n2_ := A_ (Kd.R_elder' (kr_ HO163.out) (Kd.R_base ho0) hb)
             have n3_ := A_ (Kd.R_elder' (kr_ HO173.out) (Kd.R_base ho0) hb)
             have n4_ := A_ (Kd.R_elder' (kr_ HO180.out) (Kd.R_base ho0) hb)
             have n5_ := A_ (Kd.R_elder' (kr_ HO189.out) (Kd.R_base ho0) hb)
             have n6_ := A_ (Kd.R_lower (Kd.R_new' (Kd.R_new' (Kd.R_new' (Kd.R_new' (Kd.R_new' (Kd.R_new' ho0 (Kd.R_lt (kr_ HO131.out))) (Kd.R_lt (kr_ HO147.out))) (Kd.R_lt (kr_ HO163.out))) (Kd.R_lt (kr_ HO173.out))) (Kd.R_lt (kr_ HO180.out))) (Kd.R_lt (kr_ HO189.out))) (below_size (by repeat (first | (with_reducible first | exact HB.out | apply below_alloc | apply pw_below_drewN | apply below_drew1 | refine below_set ?_ GE118.out | refine below_set ?_ GE119.out | refine below_set ?_ GE135.out | refine below_set ?_ GE151.out | refine below_set ?_ GE168.out | refine below_set ?_ GE177.out | refine below_set ?_ GE184.out | refine below_set ?_ GE193.out) | exact HB.out))))
             have n7_ := bb_ BK118.out hb
             have n8_ := bb_ BK119.out hb
             have n9_ := bb_ BK135.out hb
             have n10_ := bb_ BK151.out hb
             have n11_ := bb_ BK168.out hb
             have n12_ := bb_ BK177.out hb
             have n13_ := bb_ BK184.out hb
             have n14_ := bb_ BK193.out hb
             have n15_ := A_ (below_step (by repeat (first | (with_reducible first | exact HB.out | apply below_alloc | apply pw_below_drewN | apply below_drew1 | refine below_set ?_ GE118.out | refine below_set ?_ GE119.out | refine below_set ?_ GE135.out | refine below_set ?_ GE151.out | refine below_set ?_ GE168.out | refine below_set ?_ GE177.out | refine below_set ?_ GE184.out | refine below_set ?_ GE193.out) | exact HB.out)) hb)
             clear HO131
             clear HO147
             clear HO163
             clear HO173
             clear HO180
             clear HO189
             clear BK118
             clear BK119
             clear BK135
             clear BK151
             clear BK168
             clear BK177
             clear BK184
             clear BK193
             clear HB
             have HO131 := n0_
             have HO147 := n1_
             have HO163 := n2_
             have HO173 := n3_
             have HO180 := n4_
             have HO189 := n5_
             have HO196 := n6_
             have BK118 := n7_
             have BK119 := n8_
             have BK135 := n9_
             have BK151 := n10_
             have BK168 := n11_
             have BK177 := n12_
             have BK184 := n13_
             have BK193 := n14_
             have HB := n15_
             clear n0_ n1_ n2_ n3_ n4_ n5_ n6_ n7_ n8_ n9_ n10_ n11_ n12_ n13_ n14_ n15_
             (try clear hb)
             (try clear hb2)
             (try clear hk)
             (try clear hi)
             (try clear ho0)
             refine hK.out _ _ ⟨v195, v208, (by rw [ha.out]; exact putSel_upk 23 hb_ rfl rfl rfl), (by (with_reducible repeat (first | apply Kd.R_alloc | apply Kd.R_drewN | apply Kd.R_drew)); exact Kd.R_mono HO131.out (fun _ hk => by first | exact ⟨hk.1.1, ⟨hk.1.2.1, ⟨hk.1.2.2.1, ⟨hk.1.2.2.2.1, ⟨hk.1.2.2.2.2, hk.2⟩⟩⟩⟩⟩ | exact hk.1 | exact ⟨hk.1.1, ⟨hk.1.2.1, ⟨hk.1.2.2.1, ⟨hk.1.2.2.2.1, hk.1.2.2.2.2⟩⟩⟩⟩)), (by (with_reducible repeat (first | apply Kd.R_alloc | apply Kd.R_drewN | apply Kd.R_drew)); exact Kd.R_mono HO147.out (fun _ hk => by first | exact ⟨hk.1.1, ⟨hk.1.2.1, ⟨hk.1.2.2.1, ⟨hk.1.2.2.2.1, ⟨hk.1.2.2.2.2, hk.2⟩⟩⟩⟩⟩ | exact hk.1 | exact ⟨hk.1.1, ⟨hk.1.2.1, ⟨hk.1.2.2.1, ⟨hk.1.2.2.2.1, hk.1.2.2.2.2⟩⟩⟩⟩)), (by (with_reducible repeat (first | apply Kd.R_alloc | apply Kd.R_drewN | apply Kd.R_drew)); exact Kd.R_mono HO163.out (fun _ hk => by first | exact ⟨hk.1.1, ⟨hk.1.2.1, ⟨hk.1.2.2.1, ⟨hk.1.2.2.2.1, ⟨hk.1.2.2.2.2, hk.2⟩⟩⟩⟩⟩ | exact hk.1 | exact ⟨hk.1.1, ⟨hk.1.2.1, ⟨hk.1.2.2.1, ⟨hk.1.2.2.2.1, hk.1.2.2.2.2⟩⟩⟩⟩)), (by (with_reducible repeat (first | apply Kd.R_alloc | apply Kd.R_drewN | apply Kd.R_drew)); exact Kd.R_mono HO173.out (fun _ hk => by first | exact ⟨hk.1.1, ⟨hk.1.2.1, ⟨hk.1.2.2.1, ⟨hk.1.2.2.2.1, ⟨hk.1.2.2.2.2, hk.2⟩⟩⟩⟩⟩ | exact hk.1 | exact ⟨hk.1.1, ⟨hk.1.2.1, ⟨hk.1.2.2.1, ⟨hk.1.2.2.2.1, hk.1.2.2.2.2⟩⟩⟩⟩)), (by (with_reducible repeat (first | apply Kd.R_alloc | apply Kd.R_drewN | apply Kd.R_drew)); exact Kd.R_mono HO180.out (fun _ hk => by first | exact ⟨hk.1.1, ⟨hk.1.2.1, ⟨hk.1.2.2.1, ⟨hk.1.2.2.2.1, ⟨hk.1.2.2.2.2, hk.2⟩⟩⟩⟩⟩ | exact hk.1 | exact ⟨hk.1.1, ⟨hk.1.2.1, ⟨hk.1.2.2.1, ⟨hk.1.2.2.2.1, hk.1.2.2.2.2⟩⟩⟩⟩)), (by (with_reducible repeat (first | apply Kd.R_alloc | apply Kd.R_drewN | apply Kd.R_drew)); exact Kd.R_mono HO189.out (fun _ hk => by first | exact ⟨hk.1.1, ⟨hk.1.2.1, ⟨hk.1.2.2.1, ⟨hk.1.2.2.2.1, ⟨hk.1.2.2.2.2, hk.2⟩⟩⟩⟩⟩ | exact hk.1 | exact ⟨hk.1.1, ⟨hk.1.2.1, ⟨hk.1.2.2.1, ⟨hk.1.2.2.2.1, hk.1.2.2.2.2⟩⟩⟩⟩)), (bk_ BK118.out), (bk_ BK119.out), (bk_ BK135.out), (bk_ BK151.out), (bk_ BK168.out), (bk_ BK177.out), (bk_ BK184.out), (bk_ BK193.out), (by repeat (first | (with_reducible first | exact HB.out | apply below_alloc | apply pw_below_drewN | apply below_drew1 | refine below_set ?_ GE118.out | refine below_set ?_ GE119.out | refine below_set ?_ GE135.out | refine below_set ?_ GE151.out | refine below_set ?_ GE168.out | refine below_set ?_ GE177.out | refine below_set ?_ GE184.out | refine below_set ?_ GE193.out) | exact HB.out)), fun _ => (by (with_reducible repeat (first | apply Kd.R_alloc | apply Kd.R_drewN | apply Kd.R_drew)); exact Kd.R_mono HO196.out (fun _ hk => by first | exact ⟨hk.1.1.1.1.1.2, ⟨hk.1.1.1.1.2, ⟨hk.1.1.1.2, ⟨hk.1.1.2, ⟨hk.1.2, hk.2⟩⟩⟩⟩⟩ | exact hk.1 | exact ⟨hk.1.1.1.1.1.2, ⟨hk.1.1.1.1.2, ⟨hk.1.1.1.2, ⟨hk.1.1.2, hk.1.2⟩⟩⟩⟩)), fun h0_ => absurd ((hoff 30 (by kernel_rfl)).symm.trans h0_) (by decide)⟩
            refine steps_cons ?_ ?_
            ·
             rintro b a w' ⟨v195, v208, ha, Q_HO131, Q_HO147, Q_HO163, Q_HO173, Q_HO180, Q_HO189, Q_BK118, Q_BK119, Q_BK135, Q_BK151, Q_BK168, Q_BK177, Q_BK184, Q_BK193, Q_HB, Q_HO196, Q_HO209⟩ hb_ hon hoff
             refine ⟨_, rfl, fun K hK => ?_⟩
             have e105 : a.tmps[105]? = some (.agg #[.int .i64 t107, .int .i64 t108, .int .i64 t109, .int .i64 t110, .int .i64 t111, .int .i64 t112, .int .i64 t113, .int .i64 31, .int .i64 t115]) := by rw [ha]; exact putSel_on (e := (23, 105, .agg #[.int .i64 t107, .int .i64 t108, .int .i64 t109, .int .i64 t110, .int .i64 t111, .int .i64 t112, .int .i64 t113, .int .i64 31, .int .i64 t115])) 22 rfl rfl (hon 23 (by kernel_rfl)) rfl
             have e106 : a.tmps[106]? = some (v195) := by rw [ha]; exact putSel_on (e := (24, 106, v195)) 23 rfl rfl (hon 24 (by kernel_rfl)) rfl
             have e104 : a.tmps[104]? = some (.bool (t192 == 41)) := by rw [ha]; exact putSel_on (e := (22, 104, .bool (t192 == 41))) 21 rfl rfl (hon 22 (by kernel_rfl)) rfl
             replace ha := A_ ha
             have HO131 := A_ Q_HO131
             have HO147 := A_ Q_HO147
             have HO163 := A_ Q_HO163
             have HO173 := A_ Q_HO173
             have HO180 := A_ Q_HO180
             have HO189 := A_ Q_HO189
             have BK118 := A_ Q_BK118
             have BK119 := A_ Q_BK119
             have BK135 := A_ Q_BK135
             have BK151 := A_ Q_BK151
             have BK168 := A_ Q_BK168
             have BK177 := A_ Q_BK177
             have BK184 := A_ Q_BK184
             have BK193 := A_ Q_BK193
             have HB := A_ Q_HB
             have HO196 := A_ (Q_HO196 (hon 24 (by kernel_rfl)))
             obtain ⟨Ao121, co121, eo121⟩ := Kd.R_slice HO196.out
             (first | subst eo121 | (injection eo121 with f1_ f2_ f3_; have f4_ := f1_.symm; have f5_ := f3_.symm; clear f1_ f2_ f3_; subst f4_; subst f5_))
             refine goes_ Tryd.func18 (by kernel_rfl) rfl #[.agg #[.int .i64 t107, .int .i64 t108, .int .i64 t109, .int .i64 t110, .int .i64 t111, .int .i64 t112, .int .i64 t113, .int .i64 31, .int .i64 t115], .slice Ao121 t194.length co121] (by first | rfl | exact wanted_on rfl rfl rfl (e105.trans (by first | rfl | (simp [*]; done))) | exact wanted_on rfl rfl rfl (e106.trans (by first | rfl | (simp [*]; done))) | exact wanted_on rfl rfl rfl (e104.trans (by first | rfl | (simp [*]; done)))) rfl rfl (by first | (simp only [List.map_toArray, List.map_cons, List.map_nil, Act.eval, Array.getD_eq_getD_getElem?, Option.getD_some, e105, e106, e104]; done) | (simp only [List.map_toArray, List.map_cons, List.map_nil, Act.eval, Array.getD_eq_getD_getElem?, Option.getD_some, e105, e106, e104]; rfl)) ?_
             with_reducible refine (burn_Check.calls kj0 t107 t108 t109 t110 t111 t112 t113 31 t115 _ _ t194 t197 _ ?side1 ?side2 A45.out).mono ?_
             (case side1 => repeat (first | exact (Kd.R_reads' HO196.out).2.2 | (with_reducible refine Kd.C_alloc ?_ _) | (with_reducible refine Kd.C_drewN ?_ _) | (with_reducible refine Kd.C_drew ?_)))
             (case side2 => exact (Kd.R_reads' HO196.out).2.1)
             rintro e w122 ⟨rfl, hb⟩
             refine ⟨_, rfl, ?_⟩
             have n0_ := A_ (Kd.R_below (kr_ HO131.out) hb)
             have n1_ := A_ (Kd.R_below (kr_ HO147.out) hb)
             have n2_ := A_ (Kd.R_below (kr_ HO163.out) hb)
             have n3_ := A_ (Kd.R_below (kr_ HO173.out) hb)
             have n4_ := A_ (Kd.R_below (kr_ HO180.out) hb)
             have n5_ := A_ (Kd.R_below (kr_ HO189.out) hb)
             have n6_ := A_ (Kd.R_below (kr_ HO196.out) hb)
             have n7_ := bb_ BK118.out hb
             have n8_ := bb_ BK119.out hb
             have n9_ := bb_ BK135.out hb
             have n10_ := bb_ BK151.out hb
             have n11_ := bb_ BK168.out hb
             have n12_ := bb_ BK177.out hb
             have n13_ := bb_ BK184.out hb
             have n14_ := bb_ BK193.out hb
             have n15_ := A_ (below_step (by repeat (first | (with_reducible first | exact HB.out | apply below_alloc | apply pw_below_drewN | apply below_drew1 | refine below_set ?_ GE118.out | refine below_set ?_ GE119.out | refine below_set ?_ GE135.out | refine below_set ?_ GE151.out | refine below_set ?_ GE168.out | refine below_set ?_ GE177.out | refine below_set ?_ GE184.out | refine below_set ?_ GE193.out) | exact HB.out)) hb)
             clear HO131
             clear HO147
             clear HO163
             clear HO173
             clear HO180
             clear HO189
             clear HO196
             clear BK118
             clear BK119
             clear BK135
             clear BK151
             clear BK168
             clear BK177
             clear BK184
             clear BK193
             clear HB
             have HO131 := n0_
             have HO147 := n1_
             have HO163 := n2_
             have HO173 := n3_
             have HO180 := n4_
             have HO189 := n5_
             have HO196 := n6_
             have BK118 := n7_
             have BK119 := n8_
             have BK135 := n9_
             have BK151 := n10_
             have BK168 := n11_
             have BK177 := n12_
             have BK184 := n13_
             have BK193 := n14_
             have HB := n15_
             clear n0_ n1_ n2_ n3_ n4_ n5_ n6_ n7_ n8_ n9_ n10_ n11_ n12_ n13_ n14_ n15_
             (try clear hb)
             (try clear hb2)
             (try clear hk)
             (try clear hi)
             refine hK.out _ _ ⟨.slice Ao121 t194.length co121, v208, (by rw [ha.out]; exact putSel_upk 24 hb_ rfl rfl rfl), (kr_ HO131.out), (kr_ HO147.out), (kr_ HO163.out), (kr_ HO173.out), (kr_ HO180.out), (kr_ HO189.out), (bk_ BK118.out), (bk_ BK119.out), (bk_ BK135.out), (bk_ BK151.out), (bk_ BK168.out), (bk_ BK177.out), (bk_ BK184.out), (bk_ BK193.out), (by repeat (first | (with_reducible first | exact HB.out | apply below_alloc | apply pw_below_drewN | apply below_drew1 | refine below_set ?_ GE118.out | refine below_set ?_ GE119.out | refine below_set ?_ GE135.out | refine below_set ?_ GE151.out | refine below_set ?_ GE168.out | refine below_set ?_ GE177.out | refine below_set ?_ GE184.out | refine below_set ?_ GE193.out) | exact HB.out)), fun _ => (kr_ HO196.out), fun h0_ => absurd ((hoff 30 (by kernel_rfl)).symm.trans h0_) (by decide)⟩
            refine steps_cons ?_ ?_
            ·
             rintro b a w' ⟨v195, v208, ha, Q_HO131, Q_HO147, Q_HO163, Q_HO173, Q_HO180, Q_HO189, Q_BK118, Q_BK119, Q_BK135, Q_BK151, Q_BK168, Q_BK177, Q_BK184, Q_BK193, Q_HB, Q_HO196, Q_HO209⟩ hb_ hon hoff
             refine ⟨_, rfl, fun K hK => ?_⟩
             have e107 : a.tmps[107]? = some (.int .i64 t197) := by rw [ha]; exact putSel_on (e := (25, 107, .int .i64 t197)) 24 rfl rfl (hon 25 (by kernel_rfl)) rfl
             have e104 : a.tmps[104]? = some (.bool (t192 == 41)) := by rw [ha]; exact putSel_on (e := (22, 104, .bool (t192 == 41))) 21 rfl rfl (hon 22 (by kernel_rfl)) rfl
             replace ha := A_ ha
             have HO131 := A_ Q_HO131
             have HO147 := A_ Q_HO147
             have HO163 := A_ Q_HO163
             have HO173 := A_ Q_HO173
             have HO180 := A_ Q_HO180
             have HO189 := A_ Q_HO189
             have BK118 := A_ Q_BK118
             have BK119 := A_ Q_BK119
             have BK135 := A_ Q_BK135
             have BK151 := A_ Q_BK151
             have BK168 := A_ Q_BK168
             have BK177 := A_ Q_BK177
             have BK184 := A_ Q_BK184
             have BK193 := A_ Q_BK193
             have HB := A_ Q_HB
             have HO196 := A_ (Q_HO196 (hon 24 (by kernel_rfl)))
             refine value_ (w1 := w') (v := .bool (t197 == 40)) (wanted_on rfl rfl rfl (e104.trans (by first | rfl | (simp [*]; done)))) rfl ?_ ?_
             ·
              go_simp
              (try simp only [i64_w])
              try rfl
             refine hK.out _ _ ⟨v195, v208, (by rw [ha.out]; exact putSel_upk 25 hb_ rfl rfl rfl), Q_HO131, Q_HO147, Q_HO163, Q_HO173, Q_HO180, Q_HO189, Q_BK118, Q_BK119, Q_BK135, Q_BK151, Q_BK168, Q_BK177, Q_BK184, Q_BK193, Q_HB, Q_HO196, fun h0_ => absurd ((hoff 30 (by kernel_rfl)).symm.trans h0_) (by decide)⟩
            refine steps_cons ?_ ?_
            ·
             rintro b a w' ⟨v195, v208, ha, Q_HO131, Q_HO147, Q_HO163, Q_HO173, Q_HO180, Q_HO189, Q_BK118, Q_BK119, Q_BK135, Q_BK151, Q_BK168, Q_BK177, Q_BK184, Q_BK193, Q_HB, Q_HO196, Q_HO209⟩ hb_ hon hoff
             refine ⟨_, rfl, fun K hK => ?_⟩
             have e104 : a.tmps[104]? = some (.bool (t192 == 41)) := by rw [ha]; exact putSel_on (e := (22, 104, .bool (t192 == 41))) 21 rfl rfl (hon 22 (by kernel_rfl)) rfl
             have e108 : a.tmps[108]? = some (.bool (t197 == 40)) := by rw [ha]; exact putSel_on (e := (26, 108, .bool (t197 == 40))) 25 rfl rfl (hon 26 (by kernel_rfl)) rfl
             replace ha := A_ ha
             have HO131 := A_ Q_HO131
             have HO147 := A_ Q_HO147
             have HO163 := A_ Q_HO163
             have HO173 := A_ Q_HO173
             have HO180 := A_ Q_HO180
             have HO189 := A_ Q_HO189
             have BK118 := A_ Q_BK118
             have BK119 := A_ Q_BK119
             have BK135 := A_ Q_BK135
             have BK151 := A_ Q_BK151
             have BK168 := A_ Q_BK168
             have BK177 := A_ Q_BK177
             have BK184 := A_ Q_BK184
             have BK193 := A_ Q_BK193
             have HB := A_ Q_HB
             have HO196 := A_ (Q_HO196 (hon 24 (by kernel_rfl)))
             refine value_ (w1 := w') (v := .bool (t197 == 40)) (by rfl) rfl ?_ ?_
             ·
              go_simp
              (try simp only [i64_w])
              try rfl
             refine hK.out _ _ ⟨v195, v208, (by rw [ha.out]; exact putSel_upk 26 hb_ rfl rfl rfl), Q_HO131, Q_HO147, Q_HO163, Q_HO173, Q_HO180, Q_HO189, Q_BK118, Q_BK119, Q_BK135, Q_BK151, Q_BK168, Q_BK177, Q_BK184, Q_BK193, Q_HB, Q_HO196, fun h0_ => absurd ((hoff 30 (by kernel_rfl)).symm.trans h0_) (by decide)⟩
            refine steps_cons ?_ ?_
            ·
             rintro b a w' ⟨v195, v208, ha, Q_HO131, Q_HO147, Q_HO163, Q_HO173, Q_HO180, Q_HO189, Q_BK118, Q_BK119, Q_BK135, Q_BK151, Q_BK168, Q_BK177, Q_BK184, Q_BK193, Q_HB, Q_HO196, Q_HO209⟩ hb_ hon hoff
             refine ⟨_, rfl, fun K hK => ?_⟩
             have e109 : a.tmps[109]? = some (.bool (t197 == 40)) := by rw [ha]; exact putSel_on (e := (27, 109, .bool (t197 == 40))) 26 rfl rfl (hon 27 (by kernel_rfl)) rfl
             replace ha := A_ ha
             have HO131 := A_ Q_HO131
             have HO147 := A_ Q_HO147
             have HO163 := A_ Q_HO163
             have HO173 := A_ Q_HO173
             have HO180 := A_ Q_HO180
             have HO189 := A_ Q_HO189
             have BK118 := A_ Q_BK118
             have BK119 := A_ Q_BK119
             have BK135 := A_ Q_BK135
             have BK151 := A_ Q_BK151
             have BK168 := A_ Q_BK168
             have BK177 := A_ Q_BK177
             have BK184 := A_ Q_BK184
             have BK193 := A_ Q_BK193
             have HB := A_ Q_HB
             have HO196 := A_ (Q_HO196 (hon 24 (by kernel_rfl)))
             refine value_ (w1 := w') (v := .bool (t197 == 40)) (by rfl) rfl ?_ ?_
             ·
              go_simp
              (try simp only [i64_w])
              try rfl
             refine hK.out _ _ ⟨v195, v208, (by rw [ha.out]; exact putSel_upk 27 hb_ rfl rfl rfl), Q_HO131, Q_HO147, Q_HO163, Q_HO173, Q_HO180, Q_HO189, Q_BK118, Q_BK119, Q_BK135, Q_BK151, Q_BK168, Q_BK177, Q_BK184, Q_BK193, Q_HB, Q_HO196, fun h0_ => absurd ((hoff 30 (by kernel_rfl)).symm.trans h0_) (by decide)⟩
            refine steps_cons ?_ ?_
            ·
             rintro b a w' ⟨v195, v208, ha, Q_HO131, Q_HO147, Q_HO163, Q_HO173, Q_HO180, Q_HO189, Q_BK118, Q_BK119, Q_BK135, Q_BK151, Q_BK168, Q_BK177, Q_BK184, Q_BK193, Q_HB, Q_HO196, Q_HO209⟩ hb_ hon hoff
             refine ⟨_, rfl, fun K hK => ?_⟩
             have e110 : a.tmps[110]? = some (.bool (t197 == 40)) := by rw [ha]; exact putSel_on (e := (28, 110, .bool (t197 == 40))) 27 rfl rfl (hon 28 (by kernel_rfl)) rfl
             replace ha := A_ ha
             have HO131 := A_ Q_HO131
             have HO147 := A_ Q_HO147
             have HO163 := A_ Q_HO163
             have HO173 := A_ Q_HO173
             have HO180 := A_ Q_HO180
             have HO189 := A_ Q_HO189
             have BK118 := A_ Q_BK118
             have BK119 := A_ Q_BK119
             have BK135 := A_ Q_BK135
             have BK151 := A_ Q_BK151
             have BK168 := A_ Q_BK168
             have BK177 := A_ Q_BK177
             have BK184 := A_ Q_BK184
             have BK193 := A_ Q_BK193
             have HB := A_ Q_HB
             have HO196 := A_ (Q_HO196 (hon 24 (by kernel_rfl)))
             refine goes_ Tryd.func24 (by kernel_rfl) rfl #[] (by first | rfl | exact wanted_on rfl rfl rfl (e110.trans (by first | rfl | (simp [*]; done)))) rfl rfl (by first | (simp only [List.map_toArray, List.map_cons, List.map_nil, Act.eval, Array.getD_eq_getD_getElem?, Option.getD_some, e110]; done) | (simp only [List.map_toArray, List.map_cons, List.map_nil, Act.eval, Array.getD_eq_getD_getElem?, Option.getD_some, e110]; rfl)) ?_
             with_reducible refine (cottonpadlaw04_hood.calls  t198 t199 t200 t201 t202 t203 t204 t205 t206 _ A47.out).mono ?_
             rintro e w123 ⟨rfl, hb⟩
             refine ⟨_, rfl, ?_⟩
             have n0_ := A_ (Kd.R_below (kr_ HO131.out) hb)
             have n1_ := A_ (Kd.R_below (kr_ HO147.out) hb)
             have n2_ := A_ (Kd.R_below (kr_ HO163.out) hb)
             have n3_ := A_ (Kd.R_below (kr_ HO173.out) hb)
             have n4_ := A_ (Kd.R_below (kr_ HO180.out) hb)
             have n5_ := A_ (Kd.R_below (kr_ HO189.out) hb)
             have n6_ := A_ (Kd.R_below (kr_ HO196.out) hb)
             have n7_ := bb_ BK118.out hb
             have n8_ := bb_ BK119.out hb
             have n9_ := bb_ BK135.out hb
             have n10_ := bb_ BK151.out hb
             have n11_ := bb_ BK168.out hb
             have n12_ := bb_ BK177.out hb
             have n13_ := bb_ BK184.out hb
             have n14_ := bb_ BK193.out hb
             have n15_ := A_ (below_step (by repeat (first | (with_reducible first | exact HB.out | apply below_alloc | apply pw_below_drewN | apply below_drew1 | refine below_set ?_ GE118.out | refine below_set ?_ GE119.out | refine below_set ?_ GE135.out | refine below_set ?_ GE151.out | refine below_set ?_ GE168.out | refine below_set ?_ GE177.out | refine below_set ?_ GE184.out | refine below_set ?_ GE193.out) | exact HB.out)) hb)
             have z_HO209 := fun (h0_ : b 30 = true) => (show Kd.R (Kd.int .i64) 3 w123 w.heap.size (fun k_ => some k_ ≠ (.slice Ao58 t129.length co58 : Value).ownBlock ∧ some k_ ≠ (.slice Ao66 t145.length co66 : Value).ownBlock ∧ some k_ ≠ (.slice Ao75 t161.length co75 : Value).ownBlock ∧ some k_ ≠ (.slice Ao85 t171.length co85 : Value).ownBlock ∧ some k_ ≠ (v179 : Value).ownBlock ∧ some k_ ≠ (.slice Ao106 y187.length co106 : Value).ownBlock) v208 y207 from by first | exact (Kd.R_below (by (with_reducible repeat (first | apply Kd.R_alloc | apply Kd.R_drewN | apply Kd.R_drew)); exact (Q_HO209 h0_)) hb) | exact Kd.R_mono (Kd.R_below (by (with_reducible repeat (first | apply Kd.R_alloc | apply Kd.R_drewN | apply Kd.R_drew)); exact (Q_HO209 h0_)) hb) (fun _ h_ => by first | trivial | exact h_ | exact h_.1))
             clear HO131
             clear HO147
             clear HO163
             clear HO173
             clear HO180
             clear HO189
             clear HO196
             clear BK118
             clear BK119
             clear BK135
             clear BK151
             clear BK168
             clear BK177
             clear BK184
             clear BK193
             clear HB
             have HO131 := n0_
             have HO147 := n1_
             have HO163 := n2_
             have HO173 := n3_
             have HO180 := n4_
             have HO189 := n5_
             have HO196 := n6_
             have BK118 := n7_
             have BK119 := n8_
             have BK135 := n9_
             have BK151 := n10_
             have BK168 := n11_
             have BK177 := n12_
             have BK184 := n13_
             have BK193 := n14_
             have HB := n15_
             clear n0_ n1_ n2_ n3_ n4_ n5_ n6_ n7_ n8_ n9_ n10_ n11_ n12_ n13_ n14_ n15_
             (try clear hb)
             (try clear hb2)
             (try clear hk)
             (try clear hi)
             refine hK.out _ _ ⟨v195, v208, (by rw [ha.out]; exact putSel_upk 28 hb_ rfl rfl rfl), (kr_ HO131.out), (kr_ HO147.out), (kr_ HO163.out), (kr_ HO173.out), (kr_ HO180.out), (kr_ HO189.out), (bk_ BK118.out), (bk_ BK119.out), (bk_ BK135.out), (bk_ BK151.out), (bk_ BK168.out), (bk_ BK177.out), (bk_ BK184.out), (bk_ BK193.out), (by repeat (first | (with_reducible first | exact HB.out | apply below_alloc | apply pw_below_drewN | apply below_drew1 | refine below_set ?_ GE118.out | refine below_set ?_ GE119.out | refine below_set ?_ GE135.out | refine below_set ?_ GE151.out | refine below_set ?_ GE168.out | refine below_set ?_ GE177.out | refine below_set ?_ GE184.out | refine below_set ?_ GE193.out) | exact HB.out)), fun _ => (kr_ HO196.out), z_HO209⟩
            refine steps_cons ?_ ?_
            ·
             rintro b a w' ⟨v195, v208, ha, Q_HO131, Q_HO147, Q_HO163, Q_HO173, Q_HO180, Q_HO189, Q_BK118, Q_BK119, Q_BK135, Q_BK151, Q_BK168, Q_BK177, Q_BK184, Q_BK193, Q_HB, Q_HO196, Q_HO209⟩ hb_ hon hoff
             refine ⟨_, rfl, fun K hK => ?_⟩
             have e110 : a.tmps[110]? = some (.bool (t197 == 40)) := by rw [ha]; exact putSel_on (e := (28, 110, .bool (t197 == 40))) 27 rfl rfl (hon 28 (by kernel_rfl)) rfl
             replace ha := A_ ha
             have HO131 := A_ Q_HO131
             have HO147 := A_ Q_HO147
             have HO163 := A_ Q_HO163
             have HO173 := A_ Q_HO173
             have HO180 := A_ Q_HO180
             have HO189 := A_ Q_HO189
             have BK118 := A_ Q_BK118
             have BK119 := A_ Q_BK119
             have BK135 := A_ Q_BK135
             have BK151 := A_ Q_BK151
             have BK168 := A_ Q_BK168
             have BK177 := A_ Q_BK177
             have BK184 := A_ Q_BK184
             have BK193 := A_ Q_BK193
             have HB := A_ Q_HB
             have HO196 := A_ (Q_HO196 (hon 24 (by kernel_rfl)))
             refine Kd.R_lit_step (Kd.int .i64) _ 3 ?hg (N := 112) ?hd (xs := ([(-1)] : List Int)) (inner := [.int .i64 (-1)]) (ok := fun _ => True) (okp := fun _ => True) ?hr ?hp (fun _ hk => hk) trivial (Below.refl _ _) (Nat.le_refl _) (by simp) ?_; (case hd => rfl); (case hg => first | rfl | exact wanted_on rfl rfl rfl (e110.trans (by first | rfl | (simp [*]; done)))); (case hr => first | (go_simp; done) | (go_simp; rfl)); (case hp => exact (Reps.one (show Kd.M (Kd.int .i64) _ _ _ (-1) [.int .i64 (-1)] from rfl) (Reps.none _ _)))
             intro v208 w123 ho124 hb hg_ hnew_
             clear hg_ hnew_
             (first | rw [← Ny207.out] at ho124 | (simp only [Int.reduceToNat] at ho124; rw [← Ny207.out] at ho124))
             have n0_ := A_ (Kd.R_elder' (kr_ HO131.out) (Kd.R_base ho124) hb)
             have n1_ := A_ (Kd.R_elder' (kr_ HO147.out) (Kd.R_base ho124) hb)
             have n2_ := A_ (Kd.R_elder' (kr_ HO163.out) (Kd.R_base ho124) hb)
             have n3_ := A_ (Kd.R_elder' (kr_ HO173.out) (Kd.R_base ho124) hb)
             have n4_ := A_ (Kd.R_elder' (kr_ HO180.out) (Kd.R_base ho124) hb)
             have n5_ := A_ (Kd.R_elder' (kr_ HO189.out) (Kd.R_base ho124) hb)
             have n6_ := A_ (Kd.R_elder' (kr_ HO196.out) (Kd.R_base ho124) hb)
             have n7_ := A_ (Kd.R_lower (Kd.R_new' (Kd.R_new' (Kd.R_new' (Kd.R_new' (Kd.R_new' (Kd.R_new' (Kd.R_new' ho124 (Kd.R_lt (kr_ HO131.out))) (Kd.R_lt (kr_ HO147.out))) (Kd.R_lt (kr_ HO163.out))) (Kd.R_lt (kr_ HO173.out))) (Kd.R_lt (kr_ HO180.out))) (Kd.R_lt (kr_ HO189.out))) (Kd.R_lt (kr_ HO196.out))) (below_size (by repeat (first | (with_reducible first | exact HB.out | apply below_alloc | apply pw_below_drewN | apply below_drew1 | refine below_set ?_ GE118.out | refine below_set ?_ GE119.out | refine below_set ?_ GE135.out | refine below_set ?_ GE151.out | refine below_set ?_ GE168.out | refine below_set ?_ GE177.out | refine below_set ?_ GE184.out | refine below_set ?_ GE193.out) | exact HB.out))))
             have n8_ := bb_ BK118.out hb
             have n9_ := bb_ BK119.out hb
             have n10_ := bb_ BK135.out hb
             have n11_ := bb_ BK151.out hb
             have n12_ := bb_ BK168.out hb
             have n13_ := bb_ BK177.out hb
             have n14_ := bb_ BK184.out hb
             have n15_ := bb_ BK193.out hb
             have n16_ := A_ (below_step (by repeat (first | (with_reducible first | exact HB.out | apply below_alloc | apply pw_below_drewN | apply below_drew1 | refine below_set ?_ GE118.out | refine below_set ?_ GE119.out | refine below_set ?_ GE135.out | refine below_set ?_ GE151.out | refine below_set ?_ GE168.out | refine below_set ?_ GE177.out | refine below_set ?_ GE184.out | refine below_set ?_ GE193.out) | exact HB.out)) hb)
             clear HO131
             clear HO147
             clear HO163
             clear HO173
             clear HO180
             clear HO189
             clear HO196
             clear BK118
             clear BK119
             clear BK135
             clear BK151
             clear BK168
             clear BK177
             clear BK184
             clear BK193
             clear HB
             have HO131 := n0_
             have HO147 := n1_
             have HO163 := n2_
             have HO173 := n3_
             have HO180 := n4_
             have HO189 := n5_
             have HO196 := n6_
             have HO209 := n7_
             have BK118 := n8_
             have BK119 := n9_
             have BK135 := n10_
             have BK151 := n11_
             have BK168 := n12_
             have BK177 := n13_
             have BK184 := n14_
             have BK193 := n15_
             have HB := n16_
             clear n0_ n1_ n2_ n3_ n4_ n5_ n6_ n7_ n8_ n9_ n10_ n11_ n12_ n13_ n14_ n15_ n16_
             clear hb ho124
             refine hK.out _ _ ⟨v195, v208, (by rw [ha.out]; exact putSel_upk 29 hb_ rfl rfl rfl), (by (with_reducible repeat (first | apply Kd.R_alloc | apply Kd.R_drewN | apply Kd.R_drew)); exact Kd.R_mono HO131.out (fun _ hk => by first | exact ⟨hk.1.1, ⟨hk.1.2.1, ⟨hk.1.2.2.1, ⟨hk.1.2.2.2.1, ⟨hk.1.2.2.2.2.1, ⟨hk.1.2.2.2.2.2, hk.2⟩⟩⟩⟩⟩⟩ | exact hk.1 | exact ⟨hk.1.1, ⟨hk.1.2.1, ⟨hk.1.2.2.1, ⟨hk.1.2.2.2.1, ⟨hk.1.2.2.2.2.1, hk.1.2.2.2.2.2⟩⟩⟩⟩⟩)), (by (with_reducible repeat (first | apply Kd.R_alloc | apply Kd.R_drewN | apply Kd.R_drew)); exact Kd.R_mono HO147.out (fun _ hk => by first | exact ⟨hk.1.1, ⟨hk.1.2.1, ⟨hk.1.2.2.1, ⟨hk.1.2.2.2.1, ⟨hk.1.2.2.2.2.1, ⟨hk.1.2.2.2.2.2, hk.2⟩⟩⟩⟩⟩⟩ | exact hk.1 | exact ⟨hk.1.1, ⟨hk.1.2.1, ⟨hk.1.2.2.1, ⟨hk.1.2.2.2.1, ⟨hk.1.2.2.2.2.1, hk.1.2.2.2.2.2⟩⟩⟩⟩⟩)), (by (with_reducible repeat (first | apply Kd.R_alloc | apply Kd.R_drewN | apply Kd.R_drew)); exact Kd.R_mono HO163.out (fun _ hk => by first | exact ⟨hk.1.1, ⟨hk.1.2.1, ⟨hk.1.2.2.1, ⟨hk.1.2.2.2.1, ⟨hk.1.2.2.2.2.1, ⟨hk.1.2.2.2.2.2, hk.2⟩⟩⟩⟩⟩⟩ | exact hk.1 | exact ⟨hk.1.1, ⟨hk.1.2.1, ⟨hk.1.2.2.1, ⟨hk.1.2.2.2.1, ⟨hk.1.2.2.2.2.1, hk.1.2.2.2.2.2⟩⟩⟩⟩⟩)), (by (with_reducible repeat (first | apply Kd.R_alloc | apply Kd.R_drewN | apply Kd.R_drew)); exact Kd.R_mono HO173.out (fun _ hk => by first | exact ⟨hk.1.1, ⟨hk.1.2.1, ⟨hk.1.2.2.1, ⟨hk.1.2.2.2.1, ⟨hk.1.2.2.2.2.1, ⟨hk.1.2.2.2.2.2, hk.2⟩⟩⟩⟩⟩⟩ | exact hk.1 | exact ⟨hk.1.1, ⟨hk.1.2.1, ⟨hk.1.2.2.1, ⟨hk.1.2.2.2.1, ⟨hk.1.2.2.2.2.1, hk.1.2.2.2.2.2⟩⟩⟩⟩⟩)), (by (with_reducible repeat (first | apply Kd.R_alloc | apply Kd.R_drewN | apply Kd.R_drew)); exact Kd.R_mono HO180.out (fun _ hk => by first | exact ⟨hk.1.1, ⟨hk.1.2.1, ⟨hk.1.2.2.1, ⟨hk.1.2.2.2.1, ⟨hk.1.2.2.2.2.1, ⟨hk.1.2.2.2.2.2, hk.2⟩⟩⟩⟩⟩⟩ | exact hk.1 | exact ⟨hk.1.1, ⟨hk.1.2.1, ⟨hk.1.2.2.1, ⟨hk.1.2.2.2.1, ⟨hk.1.2.2.2.2.1, hk.1.2.2.2.2.2⟩⟩⟩⟩⟩)), (by (with_reducible repeat (first | apply Kd.R_alloc | apply Kd.R_drewN | apply Kd.R_drew)); exact Kd.R_mono HO189.out (fun _ hk => by first | exact ⟨hk.1.1, ⟨hk.1.2.1, ⟨hk.1.2.2.1, ⟨hk.1.2.2.2.1, ⟨hk.1.2.2.2.2.1, ⟨hk.1.2.2.2.2.2, hk.2⟩⟩⟩⟩⟩⟩ | exact hk.1 | exact ⟨hk.1.1, ⟨hk.1.2.1, ⟨hk.1.2.2.1, ⟨hk.1.2.2.2.1, ⟨hk.1.2.2.2.2.1, hk.1.2.2.2.2.2⟩⟩⟩⟩⟩)), (bk_ BK118.out), (bk_ BK119.out), (bk_ BK135.out), (bk_ BK151.out), (bk_ BK168.out), (bk_ BK177.out), (bk_ BK184.out), (bk_ BK193.out), (by repeat (first | (with_reducible first | exact HB.out | apply below_alloc | apply pw_below_drewN | apply below_drew1 | refine below_set ?_ GE118.out | refine below_set ?_ GE119.out | refine below_set ?_ GE135.out | refine below_set ?_ GE151.out | refine below_set ?_ GE168.out | refine below_set ?_ GE177.out | refine below_set ?_ GE184.out | refine below_set ?_ GE193.out) | exact HB.out)), fun _ => (by (with_reducible repeat (first | apply Kd.R_alloc | apply Kd.R_drewN | apply Kd.R_drew)); exact Kd.R_mono HO196.out (fun _ hk => by first | exact ⟨hk.1.1, ⟨hk.1.2.1, ⟨hk.1.2.2.1, ⟨hk.1.2.2.2.1, ⟨hk.1.2.2.2.2.1, ⟨hk.1.2.2.2.2.2, hk.2⟩⟩⟩⟩⟩⟩ | exact hk.1 | exact ⟨hk.1.1, ⟨hk.1.2.1, ⟨hk.1.2.2.1, ⟨hk.1.2.2.2.1, ⟨hk.1.2.2.2.2.1, hk.1.2.2.2.2.2⟩⟩⟩⟩⟩)), fun _ => (by (with_reducible repeat (first | apply Kd.R_alloc | apply Kd.R_drewN | apply Kd.R_drew)); exact Kd.R_mono HO209.out (fun _ hk => by first | exact ⟨hk.1.1.1.1.1.1.2, ⟨hk.1.1.1.1.1.2, ⟨hk.1.1.1.1.2, ⟨hk.1.1.1.2, ⟨hk.1.1.2, ⟨hk.1.2, hk.2⟩⟩⟩⟩⟩⟩ | exact hk.1 | exact ⟨hk.1.1.1.1.1.1.2, ⟨hk.1.1.1.1.1.2, ⟨hk.1.1.1.1.2, ⟨hk.1.1.1.2, ⟨hk.1.1.2, hk.1.2⟩⟩⟩⟩⟩))⟩
            refine steps_cons ?_ ?_
            ·
             rintro b a w' ⟨v195, v208, ha, Q_HO131, Q_HO147, Q_HO163, Q_HO173, Q_HO180, Q_HO189, Q_BK118, Q_BK119, Q_BK135, Q_BK151, Q_BK168, Q_BK177, Q_BK184, Q_BK193, Q_HB, Q_HO196, Q_HO209⟩ hb_ hon hoff
             refine ⟨_, rfl, fun K hK => ?_⟩
             have e111 : a.tmps[111]? = some (.agg #[.int .i64 t198, .int .i64 t199, .int .i64 t200, .int .i64 t201, .int .i64 t202, .int .i64 t203, .int .i64 t204, .int .i64 t205, .int .i64 t206]) := by rw [ha]; exact putSel_on (e := (29, 111, .agg #[.int .i64 t198, .int .i64 t199, .int .i64 t200, .int .i64 t201, .int .i64 t202, .int .i64 t203, .int .i64 t204, .int .i64 t205, .int .i64 t206])) 28 rfl rfl (hon 29 (by kernel_rfl)) rfl
             have e112 : a.tmps[112]? = some (v208) := by rw [ha]; exact putSel_on (e := (30, 112, v208)) 29 rfl rfl (hon 30 (by kernel_rfl)) rfl
             have e110 : a.tmps[110]? = some (.bool (t197 == 40)) := by rw [ha]; exact putSel_on (e := (28, 110, .bool (t197 == 40))) 27 rfl rfl (hon 28 (by kernel_rfl)) rfl
             replace ha := A_ ha
             have HO131 := A_ Q_HO131
             have HO147 := A_ Q_HO147
             have HO163 := A_ Q_HO163
             have HO173 := A_ Q_HO173
             have HO180 := A_ Q_HO180
             have HO189 := A_ Q_HO189
             have BK118 := A_ Q_BK118
             have BK119 := A_ Q_BK119
             have BK135 := A_ Q_BK135
             have BK151 := A_ Q_BK151
             have BK168 := A_ Q_BK168
             have BK177 := A_ Q_BK177
             have BK184 := A_ Q_BK184
             have BK193 := A_ Q_BK193
             have HB := A_ Q_HB
             have HO196 := A_ (Q_HO196 (hon 24 (by kernel_rfl)))
             have HO209 := A_ (Q_HO209 (hon 30 (by kernel_rfl)))
             obtain ⟨Ao126, co126, eo126⟩ := Kd.R_slice HO209.out
             (first | subst eo126 | (injection eo126 with f1_ f2_ f3_; have f4_ := f1_.symm; have f5_ := f3_.symm; clear f1_ f2_ f3_; subst f4_; subst f5_))
             refine goes_ Tryd.func18 (by kernel_rfl) rfl #[.agg #[.int .i64 t198, .int .i64 t199, .int .i64 t200, .int .i64 t201, .int .i64 t202, .int .i64 t203, .int .i64 t204, .int .i64 t205, .int .i64 t206], .slice Ao126 y207.length co126] (by first | rfl | exact wanted_on rfl rfl rfl (e111.trans (by first | rfl | (simp [*]; done))) | exact wanted_on rfl rfl rfl (e112.trans (by first | rfl | (simp [*]; done))) | exact wanted_on rfl rfl rfl (e110.trans (by first | rfl | (simp [*]; done)))) rfl rfl (by first | (simp only [List.map_toArray, List.map_cons, List.map_nil, Act.eval, Array.getD_eq_getD_getElem?, Option.getD_some, e111, e112, e110]; done) | (simp only [List.map_toArray, List.map_cons, List.map_nil, Act.eval, Array.getD_eq_getD_getElem?, Option.getD_some, e111, e112, e110]; rfl)) ?_
             with_reducible refine (burn_Check.calls kj0 t198 t199 t200 t201 t202 t203 t204 t205 t206 _ _ y207 t210 _ ?side1 ?side2 A48.out).mono ?_
             (case side1 => repeat (first | exact (Kd.R_reads' HO209.out).2.2 | (with_reducible refine Kd.C_alloc ?_ _) | (with_reducible refine Kd.C_drewN ?_ _) | (with_reducible refine Kd.C_drew ?_)))
             (case side2 => exact (Kd.R_reads' HO209.out).2.1)
             rintro e w127 ⟨rfl, hb⟩
             refine ⟨_, rfl, ?_⟩
             have n0_ := A_ (Kd.R_below (kr_ HO131.out) hb)
             have n1_ := A_ (Kd.R_below (kr_ HO147.out) hb)
             have n2_ := A_ (Kd.R_below (kr_ HO163.out) hb)
             have n3_ := A_ (Kd.R_below (kr_ HO173.out) hb)
             have n4_ := A_ (Kd.R_below (kr_ HO180.out) hb)
             have n5_ := A_ (Kd.R_below (kr_ HO189.out) hb)
             have n6_ := A_ (Kd.R_below (kr_ HO196.out) hb)
             have n7_ := A_ (Kd.R_below (kr_ HO209.out) hb)
             have n8_ := bb_ BK118.out hb
             have n9_ := bb_ BK119.out hb
             have n10_ := bb_ BK135.out hb
             have n11_ := bb_ BK151.out hb
             have n12_ := bb_ BK168.out hb
             have n13_ := bb_ BK177.out hb
             have n14_ := bb_ BK184.out hb
             have n15_ := bb_ BK193.out hb
             have n16_ := A_ (below_step (by repeat (first | (with_reducible first | exact HB.out | apply below_alloc | apply pw_below_drewN | apply below_drew1 | refine below_set ?_ GE118.out | refine below_set ?_ GE119.out | refine below_set ?_ GE135.out | refine below_set ?_ GE151.out | refine below_set ?_ GE168.out | refine below_set ?_ GE177.out | refine below_set ?_ GE184.out | refine below_set ?_ GE193.out) | exact HB.out)) hb)
             clear HO131
             clear HO147
             clear HO163
             clear HO173
             clear HO180
             clear HO189
             clear HO196
             clear HO209
             clear BK118
             clear BK119
             clear BK135
             clear BK151
             clear BK168
             clear BK177
             clear BK184
             clear BK193
             clear HB
             have HO131 := n0_
             have HO147 := n1_
             have HO163 := n2_
             have HO173 := n3_
             have HO180 := n4_
             have HO189 := n5_
             have HO196 := n6_
             have HO209 := n7_
             have BK118 := n8_
             have BK119 := n9_
             have BK135 := n10_
             have BK151 := n11_
             have BK168 := n12_
             have BK177 := n13_
             have BK184 := n14_
             have BK193 := n15_
             have HB := n16_
             clear n0_ n1_ n2_ n3_ n4_ n5_ n6_ n7_ n8_ n9_ n10_ n11_ n12_ n13_ n14_ n15_ n16_
             (try clear hb)
             (try clear hb2)
             (try clear hk)
             (try clear hi)
             refine hK.out _ _ ⟨v195, .slice Ao126 y207.length co126, (by rw [ha.out]; exact putSel_upk 30 hb_ rfl rfl rfl), (kr_ HO131.out), (kr_ HO147.out), (kr_ HO163.out), (kr_ HO173.out), (kr_ HO180.out), (kr_ HO189.out), (bk_ BK118.out), (bk_ BK119.out), (bk_ BK135.out), (bk_ BK151.out), (bk_ BK168.out), (bk_ BK177.out), (bk_ BK184.out), (bk_ BK193.out), (by repeat (first | (with_reducible first | exact HB.out | apply below_alloc | apply pw_below_drewN | apply below_drew1 | refine below_set ?_ GE118.out | refine below_set ?_ GE119.out | refine below_set ?_ GE135.out | refine below_set ?_ GE151.out | refine below_set ?_ GE168.out | refine below_set ?_ GE177.out | refine below_set ?_ GE184.out | refine below_set ?_ GE193.out) | exact HB.out)), fun _ => (kr_ HO196.out), fun _ => (kr_ HO209.out)⟩
            refine steps_cons ?_ ?_
            ·
             rintro b a w' ⟨v195, v208, ha, Q_HO131, Q_HO147, Q_HO163, Q_HO173, Q_HO180, Q_HO189, Q_BK118, Q_BK119, Q_BK135, Q_BK151, Q_BK168, Q_BK177, Q_BK184, Q_BK193, Q_HB, Q_HO196, Q_HO209⟩ hb_ hon hoff
             refine ⟨_, rfl, fun K hK => ?_⟩
             have e113 : a.tmps[113]? = some (.int .i64 t210) := by rw [ha]; exact putSel_on (e := (31, 113, .int .i64 t210)) 30 rfl rfl (hon 31 (by kernel_rfl)) rfl
             have e110 : a.tmps[110]? = some (.bool (t197 == 40)) := by rw [ha]; exact putSel_on (e := (28, 110, .bool (t197 == 40))) 27 rfl rfl (hon 28 (by kernel_rfl)) rfl
             replace ha := A_ ha
             have HO131 := A_ Q_HO131
             have HO147 := A_ Q_HO147
             have HO163 := A_ Q_HO163
             have HO173 := A_ Q_HO173
             have HO180 := A_ Q_HO180
             have HO189 := A_ Q_HO189
             have BK118 := A_ Q_BK118
             have BK119 := A_ Q_BK119
             have BK135 := A_ Q_BK135
             have BK151 := A_ Q_BK151
             have BK168 := A_ Q_BK168
             have BK177 := A_ Q_BK177
             have BK184 := A_ Q_BK184
             have BK193 := A_ Q_BK193
             have HB := A_ Q_HB
             have HO196 := A_ (Q_HO196 (hon 24 (by kernel_rfl)))
             have HO209 := A_ (Q_HO209 (hon 30 (by kernel_rfl)))
             refine value_ (w1 := w') (v := .bool (t210 == 41)) (wanted_on rfl rfl rfl (e110.trans (by first | rfl | (simp [*]; done)))) rfl ?_ ?_
             ·
              go_simp
              (try simp only [i64_w])
              try rfl
             refine hK.out _ _ ⟨v195, v208, (by rw [ha.out]; exact putSel_upk 31 hb_ rfl rfl rfl), Q_HO131, Q_HO147, Q_HO163, Q_HO173, Q_HO180, Q_HO189, Q_BK118, Q_BK119, Q_BK135, Q_BK151, Q_BK168, Q_BK177, Q_BK184, Q_BK193, Q_HB, Q_HO196, Q_HO209⟩
            refine steps_cons ?_ ?_
            ·
             rintro b a w' ⟨v195, v208, ha, Q_HO131, Q_HO147, Q_HO163, Q_HO173, Q_HO180, Q_HO189, Q_BK118, Q_BK119, Q_BK135, Q_BK151, Q_BK168, Q_BK177, Q_BK184, Q_BK193, Q_HB, Q_HO196, Q_HO209⟩ hb_ hon hoff
             refine ⟨_, rfl, fun K hK => ?_⟩
             have e110 : a.tmps[110]? = some (.bool (t197 == 40)) := by rw [ha]; exact putSel_on (e := (28, 110, .bool (t197 == 40))) 27 rfl rfl (hon 28 (by kernel_rfl)) rfl
             have e114 : a.tmps[114]? = some (.bool (t210 == 41)) := by rw [ha]; exact putSel_on (e := (32, 114, .bool (t210 == 41))) 31 rfl rfl (hon 32 (by kernel_rfl)) rfl
             replace ha := A_ ha
             have HO131 := A_ Q_HO131
             have HO147 := A_ Q_HO147
             have HO163 := A_ Q_HO163
             have HO173 := A_ Q_HO173
             have HO180 := A_ Q_HO180
             have HO189 := A_ Q_HO189
             have BK118 := A_ Q_BK118
             have BK119 := A_ Q_BK119
             have BK135 := A_ Q_BK135
             have BK151 := A_ Q_BK151
             have BK168 := A_ Q_BK168
             have BK177 := A_ Q_BK177
             have BK184 := A_ Q_BK184
             have BK193 := A_ Q_BK193
             have HB := A_ Q_HB
             have HO196 := A_ (Q_HO196 (hon 24 (by kernel_rfl)))
             have HO209 := A_ (Q_HO209 (hon 30 (by kernel_rfl)))
             refine value_ (w1 := w') (v := .bool (t210 == 41)) (by rfl) rfl ?_ ?_
             ·
              go_simp
              (try simp only [i64_w])
              try rfl
             refine hK.out _ _ ⟨v195, v208, (by rw [ha.out]; exact putSel_upk 32 hb_ rfl rfl rfl), Q_HO131, Q_HO147, Q_HO163, Q_HO173, Q_HO180, Q_HO189, Q_BK118, Q_BK119, Q_BK135, Q_BK151, Q_BK168, Q_BK177, Q_BK184, Q_BK193, Q_HB, Q_HO196, Q_HO209⟩
            refine steps_cons ?_ ?_
            ·
             rintro b a w' ⟨v195, v208, ha, Q_HO131, Q_HO147, Q_HO163, Q_HO173, Q_HO180, Q_HO189, Q_BK118, Q_BK119, Q_BK135, Q_BK151, Q_BK168, Q_BK177, Q_BK184, Q_BK193, Q_HB, Q_HO196, Q_HO209⟩ hb_ hon hoff
             refine ⟨_, rfl, fun K hK => ?_⟩
             have e115 : a.tmps[115]? = some (.bool (t210 == 41)) := by rw [ha]; exact putSel_on (e := (33, 115, .bool (t210 == 41))) 32 rfl rfl (hon 33 (by kernel_rfl)) rfl
             replace ha := A_ ha
             have HO131 := A_ Q_HO131
             have HO147 := A_ Q_HO147
             have HO163 := A_ Q_HO163
             have HO173 := A_ Q_HO173
             have HO180 := A_ Q_HO180
             have HO189 := A_ Q_HO189
             have BK118 := A_ Q_BK118
             have BK119 := A_ Q_BK119
             have BK135 := A_ Q_BK135
             have BK151 := A_ Q_BK151
             have BK168 := A_ Q_BK168
             have BK177 := A_ Q_BK177
             have BK184 := A_ Q_BK184
             have BK193 := A_ Q_BK193
             have HB := A_ Q_HB
             have HO196 := A_ (Q_HO196 (hon 24 (by kernel_rfl)))
             have HO209 := A_ (Q_HO209 (hon 30 (by kernel_rfl)))
             refine value_ (w1 := w') (v := .bool (t210 == 41)) (by rfl) rfl ?_ ?_
             ·
              go_simp
              (try simp only [i64_w])
              try rfl
             refine hK.out _ _ ⟨v195, v208, (by rw [ha.out]; exact putSel_upk 33 hb_ rfl rfl rfl), Q_HO131, Q_HO147, Q_HO163, Q_HO173, Q_HO180, Q_HO189, Q_BK118, Q_BK119, Q_BK135, Q_BK151, Q_BK168, Q_BK177, Q_BK184, Q_BK193, Q_HB, Q_HO196, Q_HO209⟩
            exact steps_nil
           rintro b a w127 hall ⟨v195, v208, ha, Q_HO131, Q_HO147, Q_HO163, Q_HO173, Q_HO180, Q_HO189, Q_BK118, Q_BK119, Q_BK135, Q_BK151, Q_BK168, Q_BK177, Q_BK184, Q_BK193, Q_HB, Q_HO196, Q_HO209⟩
           clear BK118 BK119 BK135 BK151 BK168 BK177 BK184 BK193 HB HO131 HO147 HO163 HO173 HO180 HO189
           have hb1_ := hall 1 (by kernel_rfl)
           have hb2_ := hall 2 (by kernel_rfl)
           have hb3_ := hall 3 (by kernel_rfl)
           have hb4_ := hall 4 (by kernel_rfl)
           have hb5_ := hall 5 (by kernel_rfl)
           have hb6_ := hall 6 (by kernel_rfl)
           have hb7_ := hall 7 (by kernel_rfl)
           have hb8_ := hall 8 (by kernel_rfl)
           have hb9_ := hall 9 (by kernel_rfl)
           have hb10_ := hall 10 (by kernel_rfl)
           have hb11_ := hall 11 (by kernel_rfl)
           have hb12_ := hall 12 (by kernel_rfl)
           have hb13_ := hall 13 (by kernel_rfl)
           have hb14_ := hall 14 (by kernel_rfl)
           have hb15_ := hall 15 (by kernel_rfl)
           have hb16_ := hall 16 (by kernel_rfl)
           have hb17_ := hall 17 (by kernel_rfl)
           have hb18_ := hall 18 (by kernel_rfl)
           have hb19_ := hall 19 (by kernel_rfl)
           have hb20_ := hall 20 (by kernel_rfl)
           have hb21_ := hall 21 (by kernel_rfl)
           have hb22_ := hall 22 (by kernel_rfl)
           have hb23_ := hall 23 (by kernel_rfl)
           have hb24_ := hall 24 (by kernel_rfl)
           have hb25_ := hall 25 (by kernel_rfl)
           have hb26_ := hall 26 (by kernel_rfl)
           have hb27_ := hall 27 (by kernel_rfl)
           have hb28_ := hall 28 (by kernel_rfl)
           have hb29_ := hall 29 (by kernel_rfl)
           have hb30_ := hall 30 (by kernel_rfl)
           have hb31_ := hall 31 (by kernel_rfl)
           have hb32_ := hall 32 (by kernel_rfl)
           have hb33_ := hall 33 (by kernel_rfl)
           have hb34_ := hall 34 (by kernel_rfl)
           subst ha
           simp only [putSel, hb1_, hb2_, hb3_, hb4_, hb5_, hb6_, hb7_, hb8_, hb9_, hb10_, hb11_, hb12_, hb13_, hb14_, hb15_, hb16_, hb17_, hb18_, hb19_, hb20_, hb21_, hb22_, hb23_, hb24_, hb25_, hb26_, hb27_, hb28_, hb29_, hb30_, hb31_, hb32_, hb33_, hb34_, if_true, Act.put, List.setIfInBounds_toArray, List.set_cons_zero, List.set_cons_succ]
           have HO131 := A_ Q_HO131
           clear Q_HO131
           have HO147 := A_ Q_HO147
           clear Q_HO147
           have HO163 := A_ Q_HO163
           clear Q_HO163
           have HO173 := A_ Q_HO173
           clear Q_HO173
           have HO180 := A_ Q_HO180
           clear Q_HO180
           have HO189 := A_ Q_HO189
           clear Q_HO189
           have BK118 := A_ Q_BK118
           clear Q_BK118
           have BK119 := A_ Q_BK119
           clear Q_BK119
           have BK135 := A_ Q_BK135
           clear Q_BK135
           have BK151 := A_ Q_BK151
           clear Q_BK151
           have BK168 := A_ Q_BK168
           clear Q_BK168
           have BK177 := A_ Q_BK177
           clear Q_BK177
           have BK184 := A_ Q_BK184
           clear Q_BK184
           have BK193 := A_ Q_BK193
           clear Q_BK193
           have HB := A_ Q_HB
           clear Q_HB
           have HO196 := A_ (Q_HO196 hb24_)
           clear Q_HO196
           have HO209 := A_ (Q_HO209 hb30_)
           clear Q_HO209
           clear hall hb1_ hb2_ hb3_ hb4_ hb5_ hb6_ hb7_ hb8_ hb9_ hb10_ hb11_ hb12_ hb13_ hb14_ hb15_ hb16_ hb17_ hb18_ hb19_ hb20_ hb21_ hb22_ hb23_ hb24_ hb25_ hb26_ hb27_ hb28_ hb29_ hb30_ hb31_ hb32_ hb33_ hb34_
           try go_wp2
           go_ret
           exact ⟨by first | rfl | (simp [errW_none, errW_some] <;> rfl) | (simp [*, errW_none, errW_some] <;> rfl), by repeat (first | (with_reducible first | exact HB.out | apply below_alloc | apply pw_below_drewN | apply below_drew1 | refine below_set ?_ GE118.out | refine below_set ?_ GE119.out | refine below_set ?_ GE135.out | refine below_set ?_ GE151.out | refine below_set ?_ GE168.out | refine below_set ?_ GE177.out | refine below_set ?_ GE184.out | refine below_set ?_ GE193.out) | exact HB.out)⟩
          ·
           rw [if_neg c46] at H
           have c46b0 : (t197 == 40) = false := beq_eq_false_iff_ne.mpr c46
           have c46b1 : (t197 != 40) = true := bne_iff_ne.mpr c46
           exact absurd H (by simp)
         ·
          rw [if_neg c43] at H
          have c43b0 : (t192 == 41) = false := beq_eq_false_iff_ne.mpr c43
          have c43b1 : (t192 != 41) = true := bne_iff_ne.mpr c43
          exact absurd H (by simp)
        ·
         rw [if_neg c42] at H
         have c42b0 : (t183 == 42) = false := beq_eq_false_iff_ne.mpr c42
         have c42b1 : (t183 != 42) = true := bne_iff_ne.mpr c42
         exact absurd H (by simp)
       ·
        rw [if_neg c41] at H
        have c41b0 : (t176 == 2) = false := beq_eq_false_iff_ne.mpr c41
        have c41b1 : (t176 != 2) = true := bne_iff_ne.mpr c41
        exact absurd H (by simp)
      ·
       rw [if_neg c40] at H
       have c40b0 : (t167 == 2) = false := beq_eq_false_iff_ne.mpr c40
       have c40b1 : (t167 != 2) = true := bne_iff_ne.mpr c40
       exact absurd H (by simp)
     ·
      rw [if_neg c39] at H
      have c39b0 : (t150 == 2) = false := beq_eq_false_iff_ne.mpr c39
      have c39b1 : (t150 != 2) = true := bne_iff_ne.mpr c39
      exact absurd H (by simp)
    ·
     rw [if_neg c38] at H
     have c38b0 : (t134 == 2) = false := beq_eq_false_iff_ne.mpr c38
     have c38b1 : (t134 != 2) = true := bne_iff_ne.mpr c38
     exact absurd H (by simp)

end Go.Proofs.YtfgclmbndgakgaaDoor.PX
