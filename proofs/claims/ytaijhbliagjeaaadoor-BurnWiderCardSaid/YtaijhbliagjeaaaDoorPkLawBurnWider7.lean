/- Printed for this claim by this session's own driver over the kit's printer: the machine side of plain functions: what each returns, and that it leaves memory below its own blocks alone. / The plain law of the door seat: that the chapter's examples stand, what is ready, choices. / BurnWider, the plain law's parts: a wider span of anything (for the walk by SX). / The table burn.ends, as the rows' condition lays it, and the door's own heap, which meets that condition. / SX: a walk by rules: what the slots of a frame hold, what the blocks of the call's own hold; each operation is one rule. No program in sight. / SX: the operations, a rule each. No program in sight. / SX: calls, builtins, maps, rows, returns. No program in sight. / SX: rows of the call's own: append, make, elements at a computed place. No program in sight. / SX: a region that draws its order, each of whose operations answers the same whatever has been done beside it. No program in sight. / SX: iterators: one that yields, and a range over one. No program in sight. -/
import Derived.Test.YtaijhbliagjeaaaDoorPkLawBurnWider6
import Derived.Test.YtaijhbliagjeaaaDoorPkLawBurnWider5
import Derived.Test.YtaijhbliagjeaaaDoorRows
import Derived.Test.YtaijhbliagjeaaaDoorPkLawBurnWider2
import Derived.LaidLaws
import Derived.LaidHandle
import Derived.LaidMore
import Derived.ChangeVars
import Derived.ChangeShapes
import Derived.WalkKit
import Derived.WalkSpells
import Derived.WalkLawsBesides
import Derived.Laws.EntriesVeiled
import Derived.Laws.Rows
import Derived.Laws.Cells
import Derived.RangeFuncCalls
import Derived.OrdersIn
import Derived.Below
import Derived.IntWalk
import Derived.Sort.LoopGhostIn
import Derived.Shelf.Abstract
import Derived.Test.YtaijhbliagjeaaaDoorPkLawBurnWider3
import Derived.Maps.AppendAt
import Derived.Deep.OwnRows
import Derived.RangeFuncNested
import Derived.RangeFuncLeaves
namespace Go.Proofs.YtaijhbliagjeaaaDoor.PA
open Go.RowKit Go.Proofs.YtaijhbliagjeaaaDoorW.PrintWords Go.Proofs.YtaijhbliagjeaaaDoorW.PrintLast Go.Proofs.YtaijhbliagjeaaaDoor.PC1 Go.Proofs.YtaijhbliagjeaaaDoor.PR Go.Proofs.YtaijhbliagjeaaaDoorW.PrintMore
attribute [local go_sem] max2_int min2_int max_two min_two max_three min_three max_four min_four -- for this text's walks alone
set_option linter.unusedVariables false
set_option linter.unusedSimpArgs false
attribute [local go_sem high] eqA23
/-! ### cottonpadlaw04_alive: function 4 -/
def cottonpadlaw04_alive.f (k : Nat)  : Option (Bool) := (cottonpadlaw04_hood.f).bind fun bt189 => ((cottonpadlaw04_reads.f).bind fun t198 => ((burn_Sum.f k bt189.1 bt189.2.1 bt189.2.2.1 bt189.2.2.2.1 bt189.2.2.2.2.1 bt189.2.2.2.2.2.1 bt189.2.2.2.2.2.2.1 bt189.2.2.2.2.2.2.2.1 bt189.2.2.2.2.2.2.2.2 t198 0 3).bind fun bt201 => ((cottonpadlaw04_lamp.f).bind fun bt205 => ((cottonpadlaw04_lights.f).bind fun t207 => ((burn_Smoke.f k bt205.1 bt205.2 t207 0 4).bind fun bt210 => ((cottonpadlaw04_hot.f k 1 1700000 4950000).bind fun t214 => (if t214 = true then (if bt201.2.2 = 0 then ((cottonpadlaw04_span.f 5100000 8910000).bind fun bt215 => (if (bt201.1 == bt215.1 && (bt201.2.1 == bt215.2)) = true then ((cottonpadlaw04_reached.f k 3400000 1 2 2).bind fun t217 => (if t217 = true then ((cottonpadlaw04_reached.f k 4000000 1 2 1).bind fun t218 => (if t218 = true then ((cottonpadlaw04_reached.f k 5000000 0 0 0).bind fun t219 => (if t219 = true then ((cottonpadlaw04_fouled.f k 1 850 295 400).bind fun t220 => (if t220 = true then (if bt210.2.2 = 0 then ((cottonpadlaw04_span.f 795 1250).bind fun bt221 => (some (bt210.1 == bt221.1 && (bt210.2.1 == bt221.2)))) else (none)) else (none))) else (none))) else (none))) else (none))) else (none))) else (none)) else (none))))))))
theorem cottonpadlaw04_alive.mono : ∀ k, LeO (cottonpadlaw04_alive.f k ) (cottonpadlaw04_alive.f (k + 1) ) := by
 intro  k
 unfold cottonpadlaw04_alive.f
 repeat' first
   | (with_reducible exact burn_Smoke.mono _ _ _ _ _ _)
   | (with_reducible exact burn_Sum.mono _ _ _ _ _ _ _ _ _ _ _ _ _)
   | (with_reducible exact cottonpadlaw04_fouled.mono _ _ _ _ _)
   | (with_reducible exact cottonpadlaw04_hot.mono _ _ _ _)
   | (with_reducible exact cottonpadlaw04_reached.mono _ _ _ _ _)
   | (with_reducible exact LeO.refl _)
   | (with_reducible exact LeO.none _)
   | (with_reducible refine LeO.ite ?_ ?_)
   | (with_reducible refine LeO.bind ?_ (fun _ => ?_))
   | exact burn_Smoke.mono _ _ _ _ _ _
   | exact burn_Sum.mono _ _ _ _ _ _ _ _ _ _ _ _ _
   | exact cottonpadlaw04_fouled.mono _ _ _ _ _
   | exact cottonpadlaw04_hot.mono _ _ _ _
   | exact cottonpadlaw04_reached.mono _ _ _ _ _
   | exact LeO.none _
   | refine LeO.ite ?_ ?_
   | refine LeO.bind ?_ (fun _ => ?_)
def cottonpadlaw04_alive.T3 : Bool × List (List Nat × List Nat) := (true, [([], []), ([0, 0], [0]), ([1], [1]), ([2, 1], [1, 2]), ([1, 3], [1, 3]), ([4, 1], [4]), ([5], [5]), ([5, 5], [5]), ([6, 7, 5], [5, 6, 7]), ([5, 8], [5, 8]), ([9, 7], [9]), ([10, 10], [10]), ([10, 11], [10, 11]), ([12, 11], [12]), ([13, 13], [13]), ([13, 14], [13, 14]), ([15, 14], [15]), ([16, 16], [16]), ([16, 17], [16, 17]), ([18, 17], [18]), ([19, 19], [19]), ([19, 20], [19, 20]), ([21, 20], [21]), ([22], [22]), ([23, 22], [22, 23]), ([22, 24], [22, 24]), ([25, 22], [25]), ([26], [26]), ([26, 26], [26]), ([27, 28, 26], [26, 27, 28]), ([26, 29], [26, 29]), ([30, 28, 0, 1, 2, 3, 4, 5, 6, 7, 8, 9, 10, 11, 12, 13, 14, 15, 16, 17, 18, 19, 20, 21, 22, 23, 24, 25, 26, 27, 28, 29, 30], [30])])
def cottonpadlaw04_alive.B3 : List Nat := [0, 1, 3, 7, 15, 31, 63, 63, 255, 511, 1023, 2047, 4095, 8191, 16383, 32767, 65535, 131071, 262143, 524287, 1048575, 2097151, 4194303, 8388607, 16777215, 33554431, 67108863, 134217727, 134217727, 536870911, 1073741823, 2147483647]
theorem cottonpadlaw04_alive.tab3 : rtab .any (opsOf Tryd.f4 3) = cottonpadlaw04_alive.T3 := by kernel_rfl
theorem cottonpadlaw04_alive.bits3 : waitsOk cottonpadlaw04_alive.T3.2 cottonpadlaw04_alive.B3 = true := by kernel_rfl
set_option maxHeartbeats 8000000 in
set_option maxRecDepth 100000 in
theorem cottonpadlaw04_alive.calls (k : Nat)  (r : Bool) (w : World) (hG : GlobOK w) (h : cottonpadlaw04_alive.f k  = some r) :
  Calls Tryd.prog 4 #[] w fun e w' => e = .returned (.bool r) ∧ Below w.heap.size w w' := by
 have hu23 := Tryd.underlying23
 have HG := A_ hG
 clear hG
 have HB := A_ (Below.refl w.heap.size w)
 have H : ((cottonpadlaw04_hood.f).bind fun bt189 => ((cottonpadlaw04_reads.f).bind fun t198 => ((burn_Sum.f k bt189.1 bt189.2.1 bt189.2.2.1 bt189.2.2.2.1 bt189.2.2.2.2.1 bt189.2.2.2.2.2.1 bt189.2.2.2.2.2.2.1 bt189.2.2.2.2.2.2.2.1 bt189.2.2.2.2.2.2.2.2 t198 0 3).bind fun bt201 => ((cottonpadlaw04_lamp.f).bind fun bt205 => ((cottonpadlaw04_lights.f).bind fun t207 => ((burn_Smoke.f k bt205.1 bt205.2 t207 0 4).bind fun bt210 => ((cottonpadlaw04_hot.f k 1 1700000 4950000).bind fun t214 => (if t214 = true then (if bt201.2.2 = 0 then ((cottonpadlaw04_span.f 5100000 8910000).bind fun bt215 => (if (bt201.1 == bt215.1 && (bt201.2.1 == bt215.2)) = true then ((cottonpadlaw04_reached.f k 3400000 1 2 2).bind fun t217 => (if t217 = true then ((cottonpadlaw04_reached.f k 4000000 1 2 1).bind fun t218 => (if t218 = true then ((cottonpadlaw04_reached.f k 5000000 0 0 0).bind fun t219 => (if t219 = true then ((cottonpadlaw04_fouled.f k 1 850 295 400).bind fun t220 => (if t220 = true then (if bt210.2.2 = 0 then ((cottonpadlaw04_span.f 795 1250).bind fun bt221 => (some (bt210.1 == bt221.1 && (bt210.2.1 == bt221.2)))) else (none)) else (none))) else (none))) else (none))) else (none))) else (none))) else (none)) else (none))))))))) = some r := h
 clear h
 replace H := Option.bind_eq_some_iff.mp H
 obtain ⟨⟨t189, t190, t191, t192, t193, t194, t195, t196, t197⟩, A10, H⟩ := H
 try dsimp only at H
 have A1 := A_ A10
 clear A10
 replace H := Option.bind_eq_some_iff.mp H
 obtain ⟨t198, A20, H⟩ := H
 try dsimp only at H
 have A2 := A_ A20
 clear A20
 replace H := Option.bind_eq_some_iff.mp H
 obtain ⟨⟨t201, t202, t203⟩, A30, H⟩ := H
 try dsimp only at H
 have A3 := A_ A30
 clear A30
 replace H := Option.bind_eq_some_iff.mp H
 obtain ⟨⟨t205, t206⟩, A40, H⟩ := H
 try dsimp only at H
 have A4 := A_ A40
 clear A40
 replace H := Option.bind_eq_some_iff.mp H
 obtain ⟨t207, A50, H⟩ := H
 try dsimp only at H
 have A5 := A_ A50
 clear A50
 replace H := Option.bind_eq_some_iff.mp H
 obtain ⟨⟨t210, t211, t212⟩, A60, H⟩ := H
 try dsimp only at H
 have A6 := A_ A60
 clear A60
 replace H := Option.bind_eq_some_iff.mp H
 obtain ⟨t214, A70, H⟩ := H
 try dsimp only at H
 have A7 := A_ A70
 clear A70
 by_cases c8 : t214 = true
 ·
  subst c8
  have H1 : (if t203 = 0 then ((cottonpadlaw04_span.f 5100000 8910000).bind fun bt215 => (if (t201 == bt215.1 && (t202 == bt215.2)) = true then ((cottonpadlaw04_reached.f k 3400000 1 2 2).bind fun t217 => (if t217 = true then ((cottonpadlaw04_reached.f k 4000000 1 2 1).bind fun t218 => (if t218 = true then ((cottonpadlaw04_reached.f k 5000000 0 0 0).bind fun t219 => (if t219 = true then ((cottonpadlaw04_fouled.f k 1 850 295 400).bind fun t220 => (if t220 = true then (if t212 = 0 then ((cottonpadlaw04_span.f 795 1250).bind fun bt221 => (some (t210 == bt221.1 && (t211 == bt221.2)))) else (none)) else (none))) else (none))) else (none))) else (none))) else (none))) else (none)) = some r := by rw [if_pos rfl] at H; exact H
  clear H
  have H := H1
  clear H1
  by_cases c9 : t203 = 0
  ·
   rw [if_pos c9] at H
   have c9b0 : (t203 == 0) = true := beq_iff_eq.mpr c9
   have c9b1 : (t203 != 0) = false := bne_eq_false_iff_eq.mpr c9
   clear c9
   replace H := Option.bind_eq_some_iff.mp H
   obtain ⟨⟨t215, t216⟩, A100, H⟩ := H
   try dsimp only at H
   have A10 := A_ A100
   clear A100
   by_cases c11 : (t201 == t215 && (t202 == t216)) = true
   ·
    rw [if_pos c11] at H
    have c11b0 : (t201 == t215 && (t202 == t216)) = true := c11
    (try (have c11b1 : decide (t201 = t215 && (t202 == t216)) = true := by simpa using c11))
    (try (have c11b2 : (t201 == t215 && (t202 == t216)) = true := by simpa using c11))
    clear c11
    replace H := Option.bind_eq_some_iff.mp H
    obtain ⟨t217, A120, H⟩ := H
    try dsimp only at H
    have A12 := A_ A120
    clear A120
    by_cases c13 : t217 = true
    ·
     subst c13
     have H1 : ((cottonpadlaw04_reached.f k 4000000 1 2 1).bind fun t218 => (if t218 = true then ((cottonpadlaw04_reached.f k 5000000 0 0 0).bind fun t219 => (if t219 = true then ((cottonpadlaw04_fouled.f k 1 850 295 400).bind fun t220 => (if t220 = true then (if t212 = 0 then ((cottonpadlaw04_span.f 795 1250).bind fun bt221 => (some (t210 == bt221.1 && (t211 == bt221.2)))) else (none)) else (none))) else (none))) else (none))) = some r := by rw [if_pos rfl] at H; exact H
     clear H
     have H := H1
     clear H1
     replace H := Option.bind_eq_some_iff.mp H
     obtain ⟨t218, A140, H⟩ := H
     try dsimp only at H
     have A14 := A_ A140
     clear A140
     by_cases c15 : t218 = true
     ·
      subst c15
      have H1 : ((cottonpadlaw04_reached.f k 5000000 0 0 0).bind fun t219 => (if t219 = true then ((cottonpadlaw04_fouled.f k 1 850 295 400).bind fun t220 => (if t220 = true then (if t212 = 0 then ((cottonpadlaw04_span.f 795 1250).bind fun bt221 => (some (t210 == bt221.1 && (t211 == bt221.2)))) else (none)) else (none))) else (none))) = some r := by rw [if_pos rfl] at H; exact H
      clear H
      have H := H1
      clear H1
      replace H := Option.bind_eq_some_iff.mp H
      obtain ⟨t219, A160, H⟩ := H
      try dsimp only at H
      have A16 := A_ A160
      clear A160
      by_cases c17 : t219 = true
      ·
       subst c17
       have H1 : ((cottonpadlaw04_fouled.f k 1 850 295 400).bind fun t220 => (if t220 = true then (if t212 = 0 then ((cottonpadlaw04_span.f 795 1250).bind fun bt221 => (some (t210 == bt221.1 && (t211 == bt221.2)))) else (none)) else (none))) = some r := by rw [if_pos rfl] at H; exact H
       clear H
       have H := H1
       clear H1
       replace H := Option.bind_eq_some_iff.mp H
       obtain ⟨t220, A180, H⟩ := H
       try dsimp only at H
       have A18 := A_ A180
       clear A180
       by_cases c19 : t220 = true
       ·
        subst c19
        have H1 : (if t212 = 0 then ((cottonpadlaw04_span.f 795 1250).bind fun bt221 => (some (t210 == bt221.1 && (t211 == bt221.2)))) else (none)) = some r := by rw [if_pos rfl] at H; exact H
        clear H
        have H := H1
        clear H1
        by_cases c20 : t212 = 0
        ·
         rw [if_pos c20] at H
         have c20b0 : (t212 == 0) = true := beq_iff_eq.mpr c20
         have c20b1 : (t212 != 0) = false := bne_eq_false_iff_eq.mpr c20
         clear c20
         replace H := Option.bind_eq_some_iff.mp H
         obtain ⟨⟨t221, t222⟩, A210, H⟩ := H
         try dsimp only at H
         have A21 := A_ A210
         clear A210
         obtain rfl := Option.some.inj H
         go_enter Tryd.func4, Tryd.ntmps4
         try go_wp2_with (first | ((with_reducible refine gate_callee (f := 12) rfl ?_); refine goesL_ (some 6) rfl rfl Tryd.func12 (by kernel_rfl) rfl #[] rfl (by (try simp only [List.map_toArray, List.map_cons, List.map_nil]); first | done | rfl | (simp only [List.length_drop, List.length_take]; rfl)) ?_; (with_reducible refine (cottonpadlaw04_hood.calls  t189 t190 t191 t192 t193 t194 t195 t196 t197 _ A1.out).mono ?_); rintro e w22 ⟨rfl, hb⟩; refine ⟨_, rfl, ?_⟩; have n0_ := A_ (below_step (by repeat (first | (with_reducible first | exact HB.out | apply below_alloc | apply pw_below_drewN | apply below_drew1) | exact HB.out)) hb); clear HB; have HB := n0_; clear n0_; (try clear hb); (try clear hb2); (try clear hk); (try clear hi)) | ((with_reducible refine gate_callee (f := 13) rfl ?_); refine goesL_ (some 7) rfl rfl Tryd.func13 (by kernel_rfl) rfl #[] rfl (by (try simp only [List.map_toArray, List.map_cons, List.map_nil]); first | done | rfl | (simp only [List.length_drop, List.length_take]; rfl)) ?_; (with_reducible refine (cottonpadlaw04_reads.calls  t198 _ A2.out).mono ?_); rintro e w23 ⟨v199, rfl, ho0, hb⟩; refine ⟨_, rfl, ?_⟩; have n0_ := A_ (Kd.R_lower ho0 (below_size (by repeat (first | (with_reducible first | exact HB.out | apply below_alloc | apply pw_below_drewN | apply below_drew1) | exact HB.out)))); have n1_ := A_ (below_step (by repeat (first | (with_reducible first | exact HB.out | apply below_alloc | apply pw_below_drewN | apply below_drew1) | exact HB.out)) hb); clear HB; have HO200 := n0_; have HB := n1_; clear n0_ n1_; (try clear hb); (try clear hb2); (try clear hk); (try clear hi); (try clear ho0); obtain ⟨Ao24, co24, eo24⟩ := Kd.R_slice HO200.out; subst eo24) | ((with_reducible refine gate_callee (f := 11) rfl ?_); refine goesL_ (some 8) rfl rfl Tryd.func11 (by kernel_rfl) rfl #[.agg #[.int .i64 t189, .int .i64 t190, .int .i64 t191, .int .i64 t192, .int .i64 t193, .int .i64 t194, .int .i64 t195, .int .i64 t196, .int .i64 t197], .slice Ao24 t198.length co24, .int .i64 0, .int .i64 3] rfl (by (try simp only [List.map_toArray, List.map_cons, List.map_nil]); first | done | rfl | (simp only [List.length_drop, List.length_take]; rfl)) ?_; (with_reducible refine (burn_Sum.calls k t189 t190 t191 t192 t193 t194 t195 t196 t197 _ _ t198 0 3 t201 t202 t203 _ ?side1 ?side2 ?side3 A3.out).mono ?_); (case side1 => repeat (first | exact (Kd.R_reads' HO200.out).2.2 | (with_reducible refine Kd.C_alloc ?_ _) | (with_reducible refine Kd.C_drewN ?_ _) | (with_reducible refine Kd.C_drew ?_))); (case side2 => exact (Kd.R_reads' HO200.out).2.1); (case side3 => exact GlobOK.below HG.out (by repeat (first | (with_reducible first | exact HB.out | apply below_alloc | apply pw_below_drewN | apply below_drew1) | exact HB.out))); rintro e w25 ⟨rfl, hb⟩; refine ⟨_, rfl, ?_⟩; have n0_ := A_ (Kd.R_below (kr_ HO200.out) hb); have n1_ := A_ (below_step (by repeat (first | (with_reducible first | exact HB.out | apply below_alloc | apply pw_below_drewN | apply below_drew1) | exact HB.out)) hb); clear HO200; clear HB; have HO200 := n0_; have HB := n1_; clear n0_ n1_; (try clear hb); (try clear hb2); (try clear hk); (try clear hi)) | ((with_reducible refine gate_dst (N := 1) rfl ?_); refine box_event ?hg (N := 1) ?hd (cs := #[.int .i64 0, .int .i64 0]) (t := 23) ?hr ?_; (case hd => rfl); (case hg => rfl); (case hr => first | (go_simp; done) | (go_simp; rfl)); intro gb204 hg w26 hbox hb; have n0_ := A_ (Kd.R_below (kr_ HO200.out) hb); have n1_ := A_ (below_step (by repeat (first | (with_reducible first | exact HB.out | apply below_alloc | apply pw_below_drewN | apply below_drew1) | exact HB.out)) hb); have n2_ := A_ (hbox); have n3_ := A_ ((by rw [hg]; exact (below_size (by repeat (first | (with_reducible first | exact HB.out | apply below_alloc | apply pw_below_drewN | apply below_drew1) | exact HB.out))) : w.heap.size ≤ gb204)); have n4_ := A_ ((by rw [hg]; exact (below_size (by repeat (first | (with_reducible first | exact HB.out | apply below_alloc | apply pw_below_drewN | apply below_drew1) | exact HB.out))) : w.heap.size ≤ gb204)); clear HO200; clear HB; have HO200 := n0_; have HB := n1_; have BK204 := n2_; have GW204 := n3_; have GE204 := n4_; clear n0_ n1_ n2_ n3_ n4_; clear hb hbox hg; have hcz27_0 : w26.cell? ⟨gb204, 0, none⟩ = some (.int .i64 0) := (blk_cell BK204.out 0).trans rfl; have hcz27_1 : w26.cell? ⟨gb204, 1, none⟩ = some (.int .i64 0) := (blk_cell BK204.out 1).trans rfl; have hfz27_0 := blk_frozen BK204.out 0; have hfz27_1 := blk_frozen BK204.out 1) | ((with_reducible refine gate_callee (f := 15) rfl ?_); refine goesL_ (some 12) rfl rfl Tryd.func15 (by kernel_rfl) rfl #[] rfl (by (try simp only [List.map_toArray, List.map_cons, List.map_nil]); first | done | rfl | (simp only [List.length_drop, List.length_take]; rfl)) ?_; (with_reducible refine (cottonpadlaw04_lamp.calls  t205 t206 _ A4.out).mono ?_); rintro e w28 ⟨rfl, hb⟩; refine ⟨_, rfl, ?_⟩; have n0_ := A_ (Kd.R_below (by (with_reducible repeat (first | apply Kd.R_alloc | apply Kd.R_drewN | apply Kd.R_drew)); exact (Kd.R_mono (Kd.R_far (p := ⟨gb204, 1, none⟩) (Kd.R_far (p := ⟨gb204, 0, none⟩) (Kd.R_types HO200.out BK204.out (by decide)) (fun _ hk => hk.2) (.int .i64 t201)) (fun _ hk => hk.2) (.int .i64 t202)) (fun _ h_ => h_.1))) hb); have n1_ := A_ (blk_below (g := gb204) (o := .cells #[.int .i64 t201, .int .i64 t202] 23 (0, 0)) (by (with_reducible repeat (first | refine blk_drewN ?_ _ | refine blk_drew ?_ | refine blk_alloc ?_ _)); refine blk_put (cs := #[.int .i64 t201, .int .i64 0]) ?_ 1 _ rfl; (with_reducible repeat (first | refine blk_drewN ?_ _ | refine blk_drew ?_ | refine blk_alloc ?_ _)); refine blk_put (cs := #[.int .i64 0, .int .i64 0]) ?_ 0 _ rfl; (with_reducible repeat (first | refine blk_drewN ?_ _ | refine blk_drew ?_ | refine blk_alloc ?_ _)); exact BK204.out) hb); have n2_ := A_ (below_step (by repeat (first | (with_reducible first | exact HB.out | apply below_alloc | apply pw_below_drewN | apply below_drew1 | refine below_set ?_ GE204.out) | exact HB.out)) hb); clear HO200; clear BK204; clear HB; have HO200 := n0_; have BK204 := n1_; have HB := n2_; clear n0_ n1_ n2_; (try clear hb); (try clear hb2); (try clear hk); (try clear hi)) | ((with_reducible refine gate_callee (f := 16) rfl ?_); refine goesL_ (some 13) rfl rfl Tryd.func16 (by kernel_rfl) rfl #[] rfl (by (try simp only [List.map_toArray, List.map_cons, List.map_nil]); first | done | rfl | (simp only [List.length_drop, List.length_take]; rfl)) ?_; (with_reducible refine (cottonpadlaw04_lights.calls  t207 _ A5.out).mono ?_); rintro e w29 ⟨v208, rfl, ho0, hb⟩; refine ⟨_, rfl, ?_⟩; have n0_ := A_ (Kd.R_elder' (kr_ HO200.out) (Kd.R_base ho0) hb); have n1_ := A_ (Kd.R_lower (Kd.R_new' ho0 (Kd.R_lt (kr_ HO200.out))) (below_size (by repeat (first | (with_reducible first | exact HB.out | apply below_alloc | apply pw_below_drewN | apply below_drew1 | refine below_set ?_ GE204.out) | exact HB.out)))); have n2_ := bb_ BK204.out hb; have n3_ := A_ (below_step (by repeat (first | (with_reducible first | exact HB.out | apply below_alloc | apply pw_below_drewN | apply below_drew1 | refine below_set ?_ GE204.out) | exact HB.out)) hb); clear HO200; clear BK204; clear HB; have HO200 := n0_; have HO209 := n1_; have BK204 := n2_; have HB := n3_; clear n0_ n1_ n2_ n3_; (try clear hb); (try clear hb2); (try clear hk); (try clear hi); (try clear ho0); obtain ⟨Ao30, co30, eo30⟩ := Kd.R_slice HO209.out; subst eo30) | ((with_reducible refine gate_callee (f := 14) rfl ?_); refine goesL_ (some 14) rfl rfl Tryd.func14 (by kernel_rfl) rfl #[.agg #[.int .i64 t205, .int .i64 t206], .slice Ao30 t207.length co30, .int .i64 0, .int .i64 4] rfl (by (try simp only [List.map_toArray, List.map_cons, List.map_nil]); first | done | rfl | (simp only [List.length_drop, List.length_take]; rfl)) ?_; (with_reducible refine (burn_Smoke.calls k t205 t206 _ _ t207 0 4 t210 t211 t212 _ ?side1 ?side2 A6.out).mono ?_); (case side1 => repeat (first | exact (Kd.R_reads' HO209.out).2.2 | (with_reducible refine Kd.C_alloc ?_ _) | (with_reducible refine Kd.C_drewN ?_ _) | (with_reducible refine Kd.C_drew ?_))); (case side2 => exact (Kd.R_reads' HO209.out).2.1); rintro e w31 ⟨rfl, hb⟩; refine ⟨_, rfl, ?_⟩; have n0_ := A_ (Kd.R_below (kr_ HO200.out) hb); have n1_ := A_ (Kd.R_below (kr_ HO209.out) hb); have n2_ := bb_ BK204.out hb; have n3_ := A_ (below_step (by repeat (first | (with_reducible first | exact HB.out | apply below_alloc | apply pw_below_drewN | apply below_drew1 | refine below_set ?_ GE204.out) | exact HB.out)) hb); clear HO200; clear HO209; clear BK204; clear HB; have HO200 := n0_; have HO209 := n1_; have BK204 := n2_; have HB := n3_; clear n0_ n1_ n2_ n3_; (try clear hb); (try clear hb2); (try clear hk); (try clear hi)) | ((with_reducible refine gate_dst (N := 3) rfl ?_); refine box_event ?hg (N := 3) ?hd (cs := #[.int .i64 0, .int .i64 0]) (t := 23) ?hr ?_; (case hd => rfl); (case hg => rfl); (case hr => first | (go_simp; done) | (go_simp; rfl)); intro gb213 hg w32 hbox hb; have n0_ := A_ (Kd.R_below (kr_ HO200.out) hb); have n1_ := A_ (Kd.R_below (kr_ HO209.out) hb); have n2_ := bb_ BK204.out hb; have n3_ := A_ (below_step (by repeat (first | (with_reducible first | exact HB.out | apply below_alloc | apply pw_below_drewN | apply below_drew1 | refine below_set ?_ GE204.out) | exact HB.out)) hb); have n4_ := A_ (hbox); have n5_ := A_ ((by rw [hg]; exact (below_size (by repeat (first | (with_reducible first | exact HB.out | apply below_alloc | apply pw_below_drewN | apply below_drew1 | refine below_set ?_ GE204.out) | exact HB.out))) : w.heap.size ≤ gb213)); have n6_ := A_ ((by rw [hg]; exact (below_size (by repeat (first | (with_reducible first | exact HB.out | apply below_alloc | apply pw_below_drewN | apply below_drew1 | refine below_set ?_ GE204.out) | exact HB.out))) : w.heap.size ≤ gb213)); have n7_ := A_ ((by rw [hg]; exact Nat.ne_of_lt (blk_lt (g := gb204) (o := .cells #[.int .i64 t201, .int .i64 t202] 23 (0, 0)) (bk_ BK204.out)) : gb204 ≠ gb213)); have n8_ := A_ ((by rw [hg]; exact Nat.ne_of_gt (blk_lt (g := gb204) (o := .cells #[.int .i64 t201, .int .i64 t202] 23 (0, 0)) (bk_ BK204.out)) : gb213 ≠ gb204)); clear HO200; clear HO209; clear BK204; clear HB; have HO200 := n0_; have HO209 := n1_; have BK204 := n2_; have HB := n3_; have BK213 := n4_; have GW213 := n5_; have GE213 := n6_; have NB204_213 := n7_; have NB213_204 := n8_; clear n0_ n1_ n2_ n3_ n4_ n5_ n6_ n7_ n8_; clear hb hbox hg; have hnb33 := NB213_204.out; have hnc33 := NB204_213.out; have hcz34_0 : w32.cell? ⟨gb213, 0, none⟩ = some (.int .i64 0) := (blk_cell BK213.out 0).trans rfl; have hcz34_1 : w32.cell? ⟨gb213, 1, none⟩ = some (.int .i64 0) := (blk_cell BK213.out 1).trans rfl; have hfz34_0 := blk_frozen BK213.out 0; have hfz34_1 := blk_frozen BK213.out 1))
         have n0_ : Aside0 (Kd.R (Kd.int .i64) 3 ((w32.setCell ⟨gb213, 0, none⟩ (.int .i64 t210)).setCell ⟨gb213, 1, none⟩ (.int .i64 t211)) w.heap.size (fun k_ => some k_ ≠ (.slice Ao30 t207.length co30 : Value).ownBlock) (.slice Ao24 t198.length co24) t198) := ⟨by (with_reducible repeat (first | apply Kd.R_alloc | apply Kd.R_drewN | apply Kd.R_drew)); exact Kd.R_mono (Kd.R_far (p := ⟨gb213, 1, none⟩) (Kd.R_far (p := ⟨gb213, 0, none⟩) (Kd.R_types HO200.out BK213.out (by decide)) (fun _ hk => hk.2) (.int .i64 t210)) (fun _ hk => hk.2) (.int .i64 t211)) (fun _ hk => hk.1.2)⟩
         have n1_ : Aside0 (Kd.R (Kd.int .i64) 3 ((w32.setCell ⟨gb213, 0, none⟩ (.int .i64 t210)).setCell ⟨gb213, 1, none⟩ (.int .i64 t211)) w.heap.size (fun k_ => some k_ ≠ (.slice Ao24 t198.length co24 : Value).ownBlock) (.slice Ao30 t207.length co30) t207) := ⟨by (with_reducible repeat (first | apply Kd.R_alloc | apply Kd.R_drewN | apply Kd.R_drew)); exact Kd.R_mono (Kd.R_far (p := ⟨gb213, 1, none⟩) (Kd.R_far (p := ⟨gb213, 0, none⟩) (Kd.R_types HO209.out BK213.out (by decide)) (fun _ hk => hk.2) (.int .i64 t210)) (fun _ hk => hk.2) (.int .i64 t211)) (fun _ hk => hk.1.2)⟩
         have n2_ : Aside0 (((w32.setCell ⟨gb213, 0, none⟩ (.int .i64 t210)).setCell ⟨gb213, 1, none⟩ (.int .i64 t211)).heap[gb204]? = some (.cells #[.int .i64 t201, .int .i64 t202] 23 (0, 0))) := ⟨by (with_reducible repeat (first | refine blk_drewN ?_ _ | refine blk_drew ?_ | refine blk_alloc ?_ _)); refine blk_far ?_ NB204_213.out _; (with_reducible repeat (first | refine blk_drewN ?_ _ | refine blk_drew ?_ | refine blk_alloc ?_ _)); refine blk_far ?_ NB204_213.out _; (with_reducible repeat (first | refine blk_drewN ?_ _ | refine blk_drew ?_ | refine blk_alloc ?_ _)); exact BK204.out⟩
         have n3_ : Aside0 (((w32.setCell ⟨gb213, 0, none⟩ (.int .i64 t210)).setCell ⟨gb213, 1, none⟩ (.int .i64 t211)).heap[gb213]? = some (.cells #[.int .i64 t210, .int .i64 t211] 23 (0, 0))) := ⟨by (with_reducible repeat (first | refine blk_drewN ?_ _ | refine blk_drew ?_ | refine blk_alloc ?_ _)); refine blk_put (cs := #[.int .i64 t210, .int .i64 0]) ?_ 1 _ rfl; (with_reducible repeat (first | refine blk_drewN ?_ _ | refine blk_drew ?_ | refine blk_alloc ?_ _)); refine blk_put (cs := #[.int .i64 0, .int .i64 0]) ?_ 0 _ rfl; (with_reducible repeat (first | refine blk_drewN ?_ _ | refine blk_drew ?_ | refine blk_alloc ?_ _)); exact BK213.out⟩
         have n4_ : Aside0 (Below w.heap.size w ((w32.setCell ⟨gb213, 0, none⟩ (.int .i64 t210)).setCell ⟨gb213, 1, none⟩ (.int .i64 t211))) := ⟨by repeat (first | (with_reducible first | exact HB.out | apply below_alloc | apply pw_below_drewN | apply below_drew1 | refine below_set ?_ GE204.out | refine below_set ?_ GE213.out) | exact HB.out)⟩
         (try clear HO200)
         (try clear HO209)
         (try clear BK204)
         (try clear BK213)
         (try clear HB)
         generalize ((w32.setCell ⟨gb213, 0, none⟩ (.int .i64 t210)).setCell ⟨gb213, 1, none⟩ (.int .i64 t211)) = w35 at n0_ n1_ n2_ n3_ n4_ ⊢
         have HO200 := n0_
         have HO209 := n1_
         have BK204 := n2_
         have BK213 := n3_
         have HB := n4_
         clear n0_ n1_ n2_ n3_ n4_
         have n0_ := A_ (Kd.R_drew HO200.out)
         have n1_ := A_ (Kd.R_drew HO209.out)
         have n2_ := A_ (blk_drew BK204.out)
         have n3_ := A_ (blk_drew BK213.out)
         have n4_ := A_ (below_drew1 HB.out)
         clear HO200
         clear HO209
         clear BK204
         clear BK213
         clear HB
         have HO200 := n0_
         have HO209 := n1_
         have BK204 := n2_
         have BK213 := n3_
         have HB := n4_
         clear n0_ n1_ n2_ n3_ n4_
         refine start_ (n := 32) (S := fun w' => w'.cell? ⟨gb204, 0, none⟩ = some (.int .i64 t201) ∧ w'.cell? ⟨gb204, 1, none⟩ = some (.int .i64 t202) ∧ w'.cell? ⟨gb213, 0, none⟩ = some (.int .i64 t210) ∧ w'.cell? ⟨gb213, 1, none⟩ = some (.int .i64 t211)) (ds := []) #[false, false, false, false, false, false, false, false, false, false, false, false, false, false, false, false, false, false, false, false, false, false, false, false, false, false, false, false, false, false, false, false] (by kernel_rfl) rfl rfl ⟨(blk_cell BK204.out 0).trans rfl, (blk_cell BK204.out 1).trans rfl, (blk_cell BK213.out 0).trans rfl, (blk_cell BK213.out 1).trans rfl⟩ (fun hHeld => ?_); refine with_tabW cottonpadlaw04_alive.tab3 cottonpadlaw04_alive.bits3 (fun HT_ HW_ => ?_)
         generalize w35.drew = w36 at HO200 HO209 BK204 BK213 HB hHeld ⊢
         refine one_ (i := 0) (N := some 17) #[true, false, false, false, false, false, false, false, false, false, false, false, false, false, false, false, false, false, false, false, false, false, false, false, false, false, false, false, false, false, false, false] rfl rfl (one_of HT_.out (by kernel_rfl)) (by decide) (fun K hK => ?_)
         refine goes_ Tryd.func17 (by kernel_rfl) rfl #[.int .i64 1, .int .i64 1700000, .int .i64 4950000] (by rfl) rfl rfl (by (try simp only [List.map_toArray, List.map_cons, List.map_nil]); first | done | rfl | (simp only [List.length_drop, List.length_take]; rfl)) ?_
         with_reducible refine (cottonpadlaw04_hot.calls k 1 1700000 4950000 true _ ?side1 A7.out).mono ?_
         (case side1 => exact GlobOK.below HG.out (by repeat (first | (with_reducible first | exact HB.out | apply below_alloc | apply pw_below_drewN | apply below_drew1 | refine below_set ?_ GE204.out | refine below_set ?_ GE213.out) | exact HB.out)))
         rintro e w37 ⟨rfl, hb⟩
         refine ⟨_, rfl, ?_⟩
         have n0_ := A_ (Kd.R_below (kr_ HO200.out) hb)
         have n1_ := A_ (Kd.R_below (kr_ HO209.out) hb)
         have n2_ := bb_ BK204.out hb
         have n3_ := bb_ BK213.out hb
         have n4_ := A_ (below_step (by repeat (first | (with_reducible first | exact HB.out | apply below_alloc | apply pw_below_drewN | apply below_drew1 | refine below_set ?_ GE204.out | refine below_set ?_ GE213.out) | exact HB.out)) hb)
         clear HO200
         clear HO209
         clear BK204
         clear BK213
         clear HB
         have HO200 := n0_
         have HO209 := n1_
         have BK204 := n2_
         have BK213 := n3_
         have HB := n4_
         clear n0_ n1_ n2_ n3_ n4_
         (try clear hb)
         (try clear hb2)
         (try clear hk)
         (try clear hi)
         refine hK.out _ _ ⟨(blk_cell BK204.out 0).trans rfl, (blk_cell BK204.out 1).trans rfl, (blk_cell BK213.out 0).trans rfl, (blk_cell BK213.out 1).trans rfl⟩ (fun hHeld => ?_)
         clear hK K
         refine norm_ (a' := ?_) ?_ ?_
         rotate_left
         ·
          show Act.put _ (some 17) _ = _
          simp only [Act.put, sT_, s0_, sS_, i64_w, i32_w]
          rfl
         refine pure_ (i := 1) (N := some 18) (v := ?_) (a' := ?_) #[true, true, false, false, false, false, false, false, false, false, false, false, false, false, false, false, false, false, false, false, false, false, false, false, false, false, false, false, false, false, false, false] rfl rfl (any_of HT_.out (by kernel_rfl)) (fun _ _ _ h => h) (Or.inl ⟨by rfl, ?_⟩) ?_ ?_
         rotate_left
         ·
          intro w'
          go_simp
          with_reducible rfl
         rotate_left
         ·
          simp only [Act.put, sT_, s0_, sS_, i64_w, i32_w]
          rfl
         refine pure_ (i := 2) (N := some 19) (v := ?_) (a' := ?_) #[true, true, true, false, false, false, false, false, false, false, false, false, false, false, false, false, false, false, false, false, false, false, false, false, false, false, false, false, false, false, false, false] rfl rfl (any_of HT_.out (by kernel_rfl)) (fun _ _ _ h => h) (Or.inl ⟨by rfl, ?_⟩) ?_ ?_
         rotate_left
         ·
          intro w'
          go_simp
          with_reducible rfl
         rotate_left
         ·
          simp only [Act.put, sT_, s0_, sS_, i64_w, i32_w]
          rfl
         refine pure_ (i := 3) (N := some 20) (v := ?_) (a' := ?_) #[true, true, true, true, false, false, false, false, false, false, false, false, false, false, false, false, false, false, false, false, false, false, false, false, false, false, false, false, false, false, false, false] rfl rfl (any_of HT_.out (by kernel_rfl)) (fun _ _ _ h => h) (Or.inl ⟨by rfl, ?_⟩) ?_ ?_
         rotate_left
         ·
          intro w'
          go_simp
          with_reducible rfl
         rotate_left
         ·
          simp only [Act.put, sT_, s0_, sS_, i64_w, i32_w]
          rfl
         refine pure_ (i := 4) (N := some 21) (v := ?_) (a' := ?_) #[true, true, true, true, true, false, false, false, false, false, false, false, false, false, false, false, false, false, false, false, false, false, false, false, false, false, false, false, false, false, false, false] rfl rfl (any_of HT_.out (by kernel_rfl)) (fun _ _ _ h => h) (Or.inl ⟨by rfl, ?_⟩) ?_ ?_
         rotate_left
         ·
          intro w'
          go_simp
          with_reducible rfl
         rotate_left
         ·
          simp only [Act.put, sT_, s0_, sS_, i64_w, i32_w]
          rfl
         refine pure_ (i := 5) (N := some 22) (v := ?_) (a' := ?_) #[true, true, true, true, true, true, false, false, false, false, false, false, false, false, false, false, false, false, false, false, false, false, false, false, false, false, false, false, false, false, false, false] rfl rfl (any_of HT_.out (by kernel_rfl)) (fun _ _ _ h => h) (Or.inl ⟨by rfl, ?_⟩) ?_ ?_
         rotate_left
         ·
          intro w'
          go_simp
          with_reducible rfl
         rotate_left
         ·
          simp only [Act.put, sT_, s0_, sS_, i64_w, i32_w]
          rfl
         refine take_ (i := 6) (N := some 23) (v := ?_) (a' := ?_) #[true, true, true, true, true, true, true, false, false, false, false, false, false, false, false, false, false, false, false, false, false, false, false, false, false, false, false, false, false, false, false, false] rfl rfl (take_ofW HT_.out HW_.out (by kernel_rfl)) (fun _ _ _ h => h) (Or.inl ⟨by rfl, ?_⟩) hHeld ?_ ?_
         rotate_left
         ·
          rintro w' ⟨s0, s1, s2, s3⟩
          go_simp
          with_reducible rfl
         rotate_left
         ·
          simp only [Act.put, sT_, s0_, sS_, i64_w, i32_w]
          rfl
         refine one_ (i := 7) (N := some 24) #[true, true, true, true, true, true, true, true, false, false, false, false, false, false, false, false, false, false, false, false, false, false, false, false, false, false, false, false, false, false, false, false] rfl rfl (one_of HT_.out (by kernel_rfl)) (by decide) (fun K hK => ?_)
         refine goes_ Tryd.func6 (by kernel_rfl) rfl #[.int .i64 5100000, .int .i64 8910000] (by rfl) rfl rfl (by (try simp only [List.map_toArray, List.map_cons, List.map_nil]); first | done | rfl | (simp only [List.length_drop, List.length_take]; rfl)) ?_
         with_reducible refine (cottonpadlaw04_span.calls 5100000 8910000 t215 t216 _ A10.out).mono ?_
         rintro e w38 ⟨rfl, hb⟩
         refine ⟨_, rfl, ?_⟩
         have n0_ := A_ (Kd.R_below (kr_ HO200.out) hb)
         have n1_ := A_ (Kd.R_below (kr_ HO209.out) hb)
         have n2_ := bb_ BK204.out hb
         have n3_ := bb_ BK213.out hb
         have n4_ := A_ (below_step (by repeat (first | (with_reducible first | exact HB.out | apply below_alloc | apply pw_below_drewN | apply below_drew1 | refine below_set ?_ GE204.out | refine below_set ?_ GE213.out) | exact HB.out)) hb)
         clear HO200
         clear HO209
         clear BK204
         clear BK213
         clear HB
         have HO200 := n0_
         have HO209 := n1_
         have BK204 := n2_
         have BK213 := n3_
         have HB := n4_
         clear n0_ n1_ n2_ n3_ n4_
         (try clear hb)
         (try clear hb2)
         (try clear hk)
         (try clear hi)
         refine hK.out _ _ ⟨(blk_cell BK204.out 0).trans rfl, (blk_cell BK204.out 1).trans rfl, (blk_cell BK213.out 0).trans rfl, (blk_cell BK213.out 1).trans rfl⟩ (fun hHeld => ?_)
         clear hK K
         refine norm_ (a' := ?_) ?_ ?_
         rotate_left
         ·
          show Act.put _ (some 24) _ = _
          simp only [Act.put, sT_, s0_, sS_, i64_w, i32_w]
          rfl
         refine pure_ (i := 8) (N := some 25) (v := ?_) (a' := ?_) #[true, true, true, true, true, true, true, true, true, false, false, false, false, false, false, false, false, false, false, false, false, false, false, false, false, false, false, false, false, false, false, false] rfl rfl (any_of HT_.out (by kernel_rfl)) (fun _ _ _ h => h) (Or.inl ⟨by rfl, ?_⟩) ?_ ?_
         rotate_left
         ·
          intro w'
          go_simp
          with_reducible rfl
         rotate_left
         ·
          simp only [Act.put, sT_, s0_, sS_, i64_w, i32_w]
          rfl
         refine pure_ (i := 9) (N := some 26) (v := ?_) (a' := ?_) #[true, true, true, true, true, true, true, true, true, true, false, false, false, false, false, false, false, false, false, false, false, false, false, false, false, false, false, false, false, false, false, false] rfl rfl (any_of HT_.out (by kernel_rfl)) (fun _ _ _ h => h) (Or.inl ⟨by rfl, ?_⟩) ?_ ?_
         rotate_left
         ·
          intro w'
          go_simp
          with_reducible rfl
         rotate_left
         ·
          simp only [Act.put, sT_, s0_, sS_, i64_w, i32_w]
          rfl
         refine pure_ (i := 10) (N := some 27) (v := ?_) (a' := ?_) #[true, true, true, true, true, true, true, true, true, true, true, false, false, false, false, false, false, false, false, false, false, false, false, false, false, false, false, false, false, false, false, false] rfl rfl (any_of HT_.out (by kernel_rfl)) (fun _ _ _ h => h) (Or.inl ⟨by rfl, ?_⟩) ?_ ?_
         rotate_left
         ·
          intro w'
          go_simp
          with_reducible rfl
         rotate_left
         ·
          simp only [Act.put, sT_, s0_, sS_, i64_w, i32_w]
          rfl
         refine one_ (i := 11) (N := some 28) #[true, true, true, true, true, true, true, true, true, true, true, true, false, false, false, false, false, false, false, false, false, false, false, false, false, false, false, false, false, false, false, false] rfl rfl (one_of HT_.out (by kernel_rfl)) (by decide) (fun K hK => ?_)
         refine goes_ Tryd.func18 (by kernel_rfl) rfl #[.int .i64 3400000, .int .i64 1, .int .i64 2, .int .u8 2] (by rfl) rfl rfl (by (try simp only [List.map_toArray, List.map_cons, List.map_nil]); first | done | rfl | (simp only [List.length_drop, List.length_take]; rfl)) ?_
         with_reducible refine (cottonpadlaw04_reached.calls k 3400000 1 2 2 true _ ?side1 A12.out).mono ?_
         (case side1 => exact GlobOK.below HG.out (by repeat (first | (with_reducible first | exact HB.out | apply below_alloc | apply pw_below_drewN | apply below_drew1 | refine below_set ?_ GE204.out | refine below_set ?_ GE213.out) | exact HB.out)))
         rintro e w39 ⟨rfl, hb⟩
         refine ⟨_, rfl, ?_⟩
         have n0_ := A_ (Kd.R_below (kr_ HO200.out) hb)
         have n1_ := A_ (Kd.R_below (kr_ HO209.out) hb)
         have n2_ := bb_ BK204.out hb
         have n3_ := bb_ BK213.out hb
         have n4_ := A_ (below_step (by repeat (first | (with_reducible first | exact HB.out | apply below_alloc | apply pw_below_drewN | apply below_drew1 | refine below_set ?_ GE204.out | refine below_set ?_ GE213.out) | exact HB.out)) hb)
         clear HO200
         clear HO209
         clear BK204
         clear BK213
         clear HB
         have HO200 := n0_
         have HO209 := n1_
         have BK204 := n2_
         have BK213 := n3_
         have HB := n4_
         clear n0_ n1_ n2_ n3_ n4_
         (try clear hb)
         (try clear hb2)
         (try clear hk)
         (try clear hi)
         refine hK.out _ _ ⟨(blk_cell BK204.out 0).trans rfl, (blk_cell BK204.out 1).trans rfl, (blk_cell BK213.out 0).trans rfl, (blk_cell BK213.out 1).trans rfl⟩ (fun hHeld => ?_)
         clear hK K
         refine norm_ (a' := ?_) ?_ ?_
         rotate_left
         ·
          show Act.put _ (some 28) _ = _
          simp only [Act.put, sT_, s0_, sS_, i64_w, i32_w]
          rfl
         refine pure_ (i := 12) (N := some 29) (v := ?_) (a' := ?_) #[true, true, true, true, true, true, true, true, true, true, true, true, true, false, false, false, false, false, false, false, false, false, false, false, false, false, false, false, false, false, false, false] rfl rfl (any_of HT_.out (by kernel_rfl)) (fun _ _ _ h => h) (Or.inl ⟨by rfl, ?_⟩) ?_ ?_
         rotate_left
         ·
          intro w'
          go_simp
          with_reducible rfl
         rotate_left
         ·
          simp only [Act.put, sT_, s0_, sS_, i64_w, i32_w]
          rfl
         refine pure_ (i := 13) (N := some 30) (v := ?_) (a' := ?_) #[true, true, true, true, true, true, true, true, true, true, true, true, true, true, false, false, false, false, false, false, false, false, false, false, false, false, false, false, false, false, false, false] rfl rfl (any_of HT_.out (by kernel_rfl)) (fun _ _ _ h => h) (Or.inl ⟨by rfl, ?_⟩) ?_ ?_
         rotate_left
         ·
          intro w'
          go_simp
          with_reducible rfl
         rotate_left
         ·
          simp only [Act.put, sT_, s0_, sS_, i64_w, i32_w]
          rfl
         refine one_ (i := 14) (N := some 31) #[true, true, true, true, true, true, true, true, true, true, true, true, true, true, true, false, false, false, false, false, false, false, false, false, false, false, false, false, false, false, false, false] rfl rfl (one_of HT_.out (by kernel_rfl)) (by decide) (fun K hK => ?_)
         refine goes_ Tryd.func18 (by kernel_rfl) rfl #[.int .i64 4000000, .int .i64 1, .int .i64 2, .int .u8 1] (by rfl) rfl rfl (by (try simp only [List.map_toArray, List.map_cons, List.map_nil]); first | done | rfl | (simp only [List.length_drop, List.length_take]; rfl)) ?_
         with_reducible refine (cottonpadlaw04_reached.calls k 4000000 1 2 1 true _ ?side1 A14.out).mono ?_
         (case side1 => exact GlobOK.below HG.out (by repeat (first | (with_reducible first | exact HB.out | apply below_alloc | apply pw_below_drewN | apply below_drew1 | refine below_set ?_ GE204.out | refine below_set ?_ GE213.out) | exact HB.out)))
         rintro e w40 ⟨rfl, hb⟩
         refine ⟨_, rfl, ?_⟩
         have n0_ := A_ (Kd.R_below (kr_ HO200.out) hb)
         have n1_ := A_ (Kd.R_below (kr_ HO209.out) hb)
         have n2_ := bb_ BK204.out hb
         have n3_ := bb_ BK213.out hb
         have n4_ := A_ (below_step (by repeat (first | (with_reducible first | exact HB.out | apply below_alloc | apply pw_below_drewN | apply below_drew1 | refine below_set ?_ GE204.out | refine below_set ?_ GE213.out) | exact HB.out)) hb)
         clear HO200
         clear HO209
         clear BK204
         clear BK213
         clear HB
         have HO200 := n0_
         have HO209 := n1_
         have BK204 := n2_
         have BK213 := n3_
         have HB := n4_
         clear n0_ n1_ n2_ n3_ n4_
         (try clear hb)
         (try clear hb2)
         (try clear hk)
         (try clear hi)
         refine hK.out _ _ ⟨(blk_cell BK204.out 0).trans rfl, (blk_cell BK204.out 1).trans rfl, (blk_cell BK213.out 0).trans rfl, (blk_cell BK213.out 1).trans rfl⟩ (fun hHeld => ?_)
         clear hK K
         refine norm_ (a' := ?_) ?_ ?_
         rotate_left
         ·
          show Act.put _ (some 31) _ = _
          simp only [Act.put, sT_, s0_, sS_, i64_w, i32_w]
          rfl
         refine pure_ (i := 15) (N := some 32) (v := ?_) (a' := ?_) #[true, true, true, true, true, true, true, true, true, true, true, true, true, true, true, true, false, false, false, false, false, false, false, false, false, false, false, false, false, false, false, false] rfl rfl (any_of HT_.out (by kernel_rfl)) (fun _ _ _ h => h) (Or.inl ⟨by rfl, ?_⟩) ?_ ?_
         rotate_left
         ·
          intro w'
          go_simp
          with_reducible rfl
         rotate_left
         ·
          simp only [Act.put, sT_, s0_, sS_, i64_w, i32_w]
          rfl
         refine pure_ (i := 16) (N := some 33) (v := ?_) (a' := ?_) #[true, true, true, true, true, true, true, true, true, true, true, true, true, true, true, true, true, false, false, false, false, false, false, false, false, false, false, false, false, false, false, false] rfl rfl (any_of HT_.out (by kernel_rfl)) (fun _ _ _ h => h) (Or.inl ⟨by rfl, ?_⟩) ?_ ?_
         rotate_left
         ·
          intro w'
          go_simp
          with_reducible rfl
         rotate_left
         ·
          simp only [Act.put, sT_, s0_, sS_, i64_w, i32_w]
          rfl
         refine one_ (i := 17) (N := some 34) #[true, true, true, true, true, true, true, true, true, true, true, true, true, true, true, true, true, true, false, false, false, false, false, false, false, false, false, false, false, false, false, false] rfl rfl (one_of HT_.out (by kernel_rfl)) (by decide) (fun K hK => ?_)
         refine goes_ Tryd.func18 (by kernel_rfl) rfl #[.int .i64 5000000, .int .i64 0, .int .i64 0, .int .u8 0] (by rfl) rfl rfl (by (try simp only [List.map_toArray, List.map_cons, List.map_nil]); first | done | rfl | (simp only [List.length_drop, List.length_take]; rfl)) ?_
         with_reducible refine (cottonpadlaw04_reached.calls k 5000000 0 0 0 true _ ?side1 A16.out).mono ?_
         (case side1 => exact GlobOK.below HG.out (by repeat (first | (with_reducible first | exact HB.out | apply below_alloc | apply pw_below_drewN | apply below_drew1 | refine below_set ?_ GE204.out | refine below_set ?_ GE213.out) | exact HB.out)))
         rintro e w41 ⟨rfl, hb⟩
         refine ⟨_, rfl, ?_⟩
         have n0_ := A_ (Kd.R_below (kr_ HO200.out) hb)
         have n1_ := A_ (Kd.R_below (kr_ HO209.out) hb)
         have n2_ := bb_ BK204.out hb
         have n3_ := bb_ BK213.out hb
         have n4_ := A_ (below_step (by repeat (first | (with_reducible first | exact HB.out | apply below_alloc | apply pw_below_drewN | apply below_drew1 | refine below_set ?_ GE204.out | refine below_set ?_ GE213.out) | exact HB.out)) hb)
         clear HO200
         clear HO209
         clear BK204
         clear BK213
         clear HB
         have HO200 := n0_
         have HO209 := n1_
         have BK204 := n2_
         have BK213 := n3_
         have HB := n4_
         clear n0_ n1_ n2_ n3_ n4_
         (try clear hb)
         (try clear hb2)
         (try clear hk)
         (try clear hi)
         refine hK.out _ _ ⟨(blk_cell BK204.out 0).trans rfl, (blk_cell BK204.out 1).trans rfl, (blk_cell BK213.out 0).trans rfl, (blk_cell BK213.out 1).trans rfl⟩ (fun hHeld => ?_)
         clear hK K
         refine norm_ (a' := ?_) ?_ ?_
         rotate_left
         ·
          show Act.put _ (some 34) _ = _
          simp only [Act.put, sT_, s0_, sS_, i64_w, i32_w]
          rfl
         refine pure_ (i := 18) (N := some 35) (v := ?_) (a' := ?_) #[true, true, true, true, true, true, true, true, true, true, true, true, true, true, true, true, true, true, true, false, false, false, false, false, false, false, false, false, false, false, false, false] rfl rfl (any_of HT_.out (by kernel_rfl)) (fun _ _ _ h => h) (Or.inl ⟨by rfl, ?_⟩) ?_ ?_
         rotate_left
         ·
          intro w'
          go_simp
          with_reducible rfl
         rotate_left
         ·
          simp only [Act.put, sT_, s0_, sS_, i64_w, i32_w]
          rfl
         refine pure_ (i := 19) (N := some 36) (v := ?_) (a' := ?_) #[true, true, true, true, true, true, true, true, true, true, true, true, true, true, true, true, true, true, true, true, false, false, false, false, false, false, false, false, false, false, false, false] rfl rfl (any_of HT_.out (by kernel_rfl)) (fun _ _ _ h => h) (Or.inl ⟨by rfl, ?_⟩) ?_ ?_
         rotate_left
         ·
          intro w'
          go_simp
          with_reducible rfl
         rotate_left
         ·
          simp only [Act.put, sT_, s0_, sS_, i64_w, i32_w]
          rfl
         refine one_ (i := 20) (N := some 37) #[true, true, true, true, true, true, true, true, true, true, true, true, true, true, true, true, true, true, true, true, true, false, false, false, false, false, false, false, false, false, false, false] rfl rfl (one_of HT_.out (by kernel_rfl)) (by decide) (fun K hK => ?_)
         refine goes_ Tryd.func19 (by kernel_rfl) rfl #[.int .i64 1, .int .i64 850, .int .i64 295, .int .i64 400] (by rfl) rfl rfl (by (try simp only [List.map_toArray, List.map_cons, List.map_nil]); first | done | rfl | (simp only [List.length_drop, List.length_take]; rfl)) ?_
         with_reducible refine (cottonpadlaw04_fouled.calls k 1 850 295 400 true _ A18.out).mono ?_
         rintro e w42 ⟨rfl, hb⟩
         refine ⟨_, rfl, ?_⟩
         have n0_ := A_ (Kd.R_below (kr_ HO200.out) hb)
         have n1_ := A_ (Kd.R_below (kr_ HO209.out) hb)
         have n2_ := bb_ BK204.out hb
         have n3_ := bb_ BK213.out hb
         have n4_ := A_ (below_step (by repeat (first | (with_reducible first | exact HB.out | apply below_alloc | apply pw_below_drewN | apply below_drew1 | refine below_set ?_ GE204.out | refine below_set ?_ GE213.out) | exact HB.out)) hb)
         clear HO200
         clear HO209
         clear BK204
         clear BK213
         clear HB
         have HO200 := n0_
         have HO209 := n1_
         have BK204 := n2_
         have BK213 := n3_
         have HB := n4_
         clear n0_ n1_ n2_ n3_ n4_
         (try clear hb)
         (try clear hb2)
         (try clear hk)
         (try clear hi)
         refine hK.out _ _ ⟨(blk_cell BK204.out 0).trans rfl, (blk_cell BK204.out 1).trans rfl, (blk_cell BK213.out 0).trans rfl, (blk_cell BK213.out 1).trans rfl⟩ (fun hHeld => ?_)
         clear hK K
         refine norm_ (a' := ?_) ?_ ?_
         rotate_left
         ·
          show Act.put _ (some 37) _ = _
          simp only [Act.put, sT_, s0_, sS_, i64_w, i32_w]
          rfl
         refine pure_ (i := 21) (N := some 38) (v := ?_) (a' := ?_) #[true, true, true, true, true, true, true, true, true, true, true, true, true, true, true, true, true, true, true, true, true, true, false, false, false, false, false, false, false, false, false, false] rfl rfl (any_of HT_.out (by kernel_rfl)) (fun _ _ _ h => h) (Or.inl ⟨by rfl, ?_⟩) ?_ ?_
         rotate_left
         ·
          intro w'
          go_simp
          with_reducible rfl
         rotate_left
         ·
          simp only [Act.put, sT_, s0_, sS_, i64_w, i32_w]
          rfl
         refine pure_ (i := 22) (N := some 39) (v := ?_) (a' := ?_) #[true, true, true, true, true, true, true, true, true, true, true, true, true, true, true, true, true, true, true, true, true, true, true, false, false, false, false, false, false, false, false, false] rfl rfl (any_of HT_.out (by kernel_rfl)) (fun _ _ _ h => h) (Or.inl ⟨by rfl, ?_⟩) ?_ ?_
         rotate_left
         ·
          intro w'
          go_simp
          with_reducible rfl
         rotate_left
         ·
          simp only [Act.put, sT_, s0_, sS_, i64_w, i32_w]
          rfl
         refine pure_ (i := 23) (N := some 40) (v := ?_) (a' := ?_) #[true, true, true, true, true, true, true, true, true, true, true, true, true, true, true, true, true, true, true, true, true, true, true, true, false, false, false, false, false, false, false, false] rfl rfl (any_of HT_.out (by kernel_rfl)) (fun _ _ _ h => h) (Or.inl ⟨by rfl, ?_⟩) ?_ ?_
         rotate_left
         ·
          intro w'
          go_simp
          with_reducible rfl
         rotate_left
         ·
          simp only [Act.put, sT_, s0_, sS_, i64_w, i32_w]
          rfl
         refine pure_ (i := 24) (N := some 41) (v := ?_) (a' := ?_) #[true, true, true, true, true, true, true, true, true, true, true, true, true, true, true, true, true, true, true, true, true, true, true, true, true, false, false, false, false, false, false, false] rfl rfl (any_of HT_.out (by kernel_rfl)) (fun _ _ _ h => h) (Or.inl ⟨by rfl, ?_⟩) ?_ ?_
         rotate_left
         ·
          intro w'
          go_simp
          with_reducible rfl
         rotate_left
         ·
          simp only [Act.put, sT_, s0_, sS_, i64_w, i32_w]
          rfl
         refine pure_ (i := 25) (N := some 42) (v := ?_) (a' := ?_) #[true, true, true, true, true, true, true, true, true, true, true, true, true, true, true, true, true, true, true, true, true, true, true, true, true, true, false, false, false, false, false, false] rfl rfl (any_of HT_.out (by kernel_rfl)) (fun _ _ _ h => h) (Or.inl ⟨by rfl, ?_⟩) ?_ ?_
         rotate_left
         ·
          intro w'
          go_simp
          with_reducible rfl
         rotate_left
         ·
          simp only [Act.put, sT_, s0_, sS_, i64_w, i32_w]
          rfl
         refine pure_ (i := 26) (N := some 43) (v := ?_) (a' := ?_) #[true, true, true, true, true, true, true, true, true, true, true, true, true, true, true, true, true, true, true, true, true, true, true, true, true, true, true, false, false, false, false, false] rfl rfl (any_of HT_.out (by kernel_rfl)) (fun _ _ _ h => h) (Or.inl ⟨by rfl, ?_⟩) ?_ ?_
         rotate_left
         ·
          intro w'
          go_simp
          with_reducible rfl
         rotate_left
         ·
          simp only [Act.put, sT_, s0_, sS_, i64_w, i32_w]
          rfl
         refine take_ (i := 27) (N := some 44) (v := ?_) (a' := ?_) #[true, true, true, true, true, true, true, true, true, true, true, true, true, true, true, true, true, true, true, true, true, true, true, true, true, true, true, true, false, false, false, false] rfl rfl (take_ofW HT_.out HW_.out (by kernel_rfl)) (fun _ _ _ h => h) (Or.inl ⟨by rfl, ?_⟩) hHeld ?_ ?_
         rotate_left
         ·
          rintro w' ⟨s0, s1, s2, s3⟩
          go_simp
          with_reducible rfl
         rotate_left
         ·
          simp only [Act.put, sT_, s0_, sS_, i64_w, i32_w]
          rfl
         refine one_ (i := 28) (N := some 45) #[true, true, true, true, true, true, true, true, true, true, true, true, true, true, true, true, true, true, true, true, true, true, true, true, true, true, true, true, true, false, false, false] rfl rfl (one_of HT_.out (by kernel_rfl)) (by decide) (fun K hK => ?_)
         refine goes_ Tryd.func6 (by kernel_rfl) rfl #[.int .i64 795, .int .i64 1250] (by rfl) rfl rfl (by (try simp only [List.map_toArray, List.map_cons, List.map_nil]); first | done | rfl | (simp only [List.length_drop, List.length_take]; rfl)) ?_
         with_reducible refine (cottonpadlaw04_span.calls 795 1250 t221 t222 _ A21.out).mono ?_
         rintro e w43 ⟨rfl, hb⟩
         refine ⟨_, rfl, ?_⟩
         have n0_ := A_ (Kd.R_below (kr_ HO200.out) hb)
         have n1_ := A_ (Kd.R_below (kr_ HO209.out) hb)
         have n2_ := bb_ BK204.out hb
         have n3_ := bb_ BK213.out hb
         have n4_ := A_ (below_step (by repeat (first | (with_reducible first | exact HB.out | apply below_alloc | apply pw_below_drewN | apply below_drew1 | refine below_set ?_ GE204.out | refine below_set ?_ GE213.out) | exact HB.out)) hb)
         clear HO200
         clear HO209
         clear BK204
         clear BK213
         clear HB
         have HO200 := n0_
         have HO209 := n1_
         have BK204 := n2_
         have BK213 := n3_
         have HB := n4_
         clear n0_ n1_ n2_ n3_ n4_
         (try clear hb)
         (try clear hb2)
         (try clear hk)
         (try clear hi)
         refine hK.out _ _ ⟨(blk_cell BK204.out 0).trans rfl, (blk_cell BK204.out 1).trans rfl, (blk_cell BK213.out 0).trans rfl, (blk_cell BK213.out 1).trans rfl⟩ (fun hHeld => ?_)
         clear hK K
         refine norm_ (a' := ?_) ?_ ?_
         rotate_left
         ·
          show Act.put _ (some 45) _ = _
          simp only [Act.put, sT_, s0_, sS_, i64_w, i32_w]
          rfl
         refine pure_ (i := 29) (N := some 46) (v := ?_) (a' := ?_) #[true, true, true, true, true, true, true, true, true, true, true, true, true, true, true, true, true, true, true, true, true, true, true, true, true, true, true, true, true, true, false, false] rfl rfl (any_of HT_.out (by kernel_rfl)) (fun _ _ _ h => h) (Or.inl ⟨by rfl, ?_⟩) ?_ ?_
         rotate_left
         ·
          intro w'
          go_simp
          with_reducible rfl
         rotate_left
         ·
          simp only [Act.put, sT_, s0_, sS_, i64_w, i32_w]
          rfl
         refine pure_ (i := 30) (N := some 47) (v := ?_) (a' := ?_) #[true, true, true, true, true, true, true, true, true, true, true, true, true, true, true, true, true, true, true, true, true, true, true, true, true, true, true, true, true, true, true, false] rfl rfl (any_of HT_.out (by kernel_rfl)) (fun _ _ _ h => h) (Or.inl ⟨by rfl, ?_⟩) ?_ ?_
         rotate_left
         ·
          intro w'
          go_simp
          with_reducible rfl
         rotate_left
         ·
          simp only [Act.put, sT_, s0_, sS_, i64_w, i32_w]
          rfl
         refine pure_ (i := 31) (N := some 0) (v := ?_) (a' := ?_) #[true, true, true, true, true, true, true, true, true, true, true, true, true, true, true, true, true, true, true, true, true, true, true, true, true, true, true, true, true, true, true, true] rfl rfl (any_of HT_.out (by kernel_rfl)) (fun _ _ _ h => h) (Or.inl ⟨by rfl, ?_⟩) ?_ ?_
         rotate_left
         ·
          intro w'
          go_simp
          with_reducible rfl
         rotate_left
         ·
          simp only [Act.put, sT_, s0_, sS_, i64_w, i32_w]
          rfl
         refine done_ (done_of HT_.out (by kernel_rfl)) ?_
         try go_wp2
         go_ret
         exact ⟨by first | rfl | (simp [errW_none, errW_some] <;> rfl) | (simp [*, errW_none, errW_some] <;> rfl), by repeat (first | (with_reducible first | exact HB.out | apply below_alloc | apply pw_below_drewN | apply below_drew1 | refine below_set ?_ GE204.out | refine below_set ?_ GE213.out) | exact HB.out)⟩
        ·
         rw [if_neg c20] at H
         have c20b0 : (t212 == 0) = false := beq_eq_false_iff_ne.mpr c20
         have c20b1 : (t212 != 0) = true := bne_iff_ne.mpr c20
         exact absurd H (by simp)
       ·
        replace c19 := Bool.eq_false_iff.mpr c19
        subst c19
        have H1 : (none) = some r := by rw [if_neg (show ¬ (false = true) by decide)] at H; exact H
        clear H
        have H := H1
        clear H1
        exact absurd H (by simp)
      ·
       replace c17 := Bool.eq_false_iff.mpr c17
       subst c17
       have H1 : (none) = some r := by rw [if_neg (show ¬ (false = true) by decide)] at H; exact H
       clear H
       have H := H1
       clear H1
       exact absurd H (by simp)
     ·
      replace c15 := Bool.eq_false_iff.mpr c15
      subst c15
      have H1 : (none) = some r := by rw [if_neg (show ¬ (false = true) by decide)] at H; exact H
      clear H
      have H := H1
      clear H1
      exact absurd H (by simp)
    ·
     replace c13 := Bool.eq_false_iff.mpr c13
     subst c13
     have H1 : (none) = some r := by rw [if_neg (show ¬ (false = true) by decide)] at H; exact H
     clear H
     have H := H1
     clear H1
     exact absurd H (by simp)
   ·
    rw [if_neg c11] at H
    have c11b0 : (t201 == t215 && (t202 == t216)) = false := by simpa using c11
    (try (have c11b1 : decide (t201 = t215 && (t202 == t216)) = false := by simpa using c11))
    (try (have c11b2 : (t201 == t215 && (t202 == t216)) = false := by simpa using c11))
    (try (have c11b3 : ¬ (t201 = t215 && (t202 == t216)) := by simpa using c11))
    clear c11
    exact absurd H (by simp)
  ·
   rw [if_neg c9] at H
   have c9b0 : (t203 == 0) = false := beq_eq_false_iff_ne.mpr c9
   have c9b1 : (t203 != 0) = true := bne_iff_ne.mpr c9
   exact absurd H (by simp)
 ·
  replace c8 := Bool.eq_false_iff.mpr c8
  subst c8
  have H1 : (none) = some r := by rw [if_neg (show ¬ (false = true) by decide)] at H; exact H
  clear H
  have H := H1
  clear H1
  exact absurd H (by simp)
/-! ### cottonpadlaw04_ready: function 5 -/
def cottonpadlaw04_ready.f (k : Nat) (a0_0 : Int) (a0_1 : Int) (a0_2 : Int) (a0_3 : Int) (a0_4 : Int) (a0_5 : Int) (a0_6 : Int) (a0_7 : Int) (a0_8 : Int) (l1 : List Int) : Option (Bool) := (cottonpadref04_Great.f l1).bind fun t224 => (if t224 = true then (some false) else ((cottonpadref04_Check.f k a0_0 a0_1 a0_2 a0_3 a0_4 a0_5 a0_6 a0_7 a0_8 l1).bind fun t225 => (some (t225 == 0))))
theorem cottonpadlaw04_ready.mono : ∀ a0 a1 a2 a3 a4 a5 a6 a7 a8 a9 k, LeO (cottonpadlaw04_ready.f k a0 a1 a2 a3 a4 a5 a6 a7 a8 a9) (cottonpadlaw04_ready.f (k + 1) a0 a1 a2 a3 a4 a5 a6 a7 a8 a9) := by
 intro a0 a1 a2 a3 a4 a5 a6 a7 a8 a9 k
 unfold cottonpadlaw04_ready.f
 repeat' first
   | (with_reducible exact cottonpadref04_Check.mono _ _ _ _ _ _ _ _ _ _ _)
   | (with_reducible exact LeO.refl _)
   | (with_reducible exact LeO.none _)
   | (with_reducible refine LeO.ite ?_ ?_)
   | (with_reducible refine LeO.bind ?_ (fun _ => ?_))
   | exact cottonpadref04_Check.mono _ _ _ _ _ _ _ _ _ _ _
   | exact LeO.none _
   | refine LeO.ite ?_ ?_
   | refine LeO.bind ?_ (fun _ => ?_)
set_option maxHeartbeats 8000000 in
set_option maxRecDepth 100000 in
theorem cottonpadlaw04_ready.calls (k : Nat) (a0_0 : Int) (a0_1 : Int) (a0_2 : Int) (a0_3 : Int) (a0_4 : Int) (a0_5 : Int) (a0_6 : Int) (a0_7 : Int) (a0_8 : Int) (A1 : Option Addr) (c1 : Nat) (l1 : List Int) (r : Bool) (w : World) (hr1 : Kd.C (Kd.int .i64) w A1 l1.length l1) (hc1 : l1.length ≤ c1) (h : cottonpadlaw04_ready.f k a0_0 a0_1 a0_2 a0_3 a0_4 a0_5 a0_6 a0_7 a0_8 l1 = some r) :
  Calls Tryd.prog 5 #[.agg #[.int .i64 a0_0, .int .i64 a0_1, .int .i64 a0_2, .int .i64 a0_3, .int .i64 a0_4, .int .i64 a0_5, .int .i64 a0_6, .int .i64 a0_7, .int .i64 a0_8], .slice A1 l1.length c1] w fun e w' => e = .returned (.bool r) ∧ Below w.heap.size w w' := by
 have hu25 := Tryd.underlying25
 have HR1 := A_ hr1
 have HC1 := A_ hc1
 clear hr1 hc1
 have HB := A_ (Below.refl w.heap.size w)
 have H : ((cottonpadref04_Great.f l1).bind fun t224 => (if t224 = true then (some false) else ((cottonpadref04_Check.f k a0_0 a0_1 a0_2 a0_3 a0_4 a0_5 a0_6 a0_7 a0_8 l1).bind fun t225 => (some (t225 == 0))))) = some r := h
 clear h
 replace H := Option.bind_eq_some_iff.mp H
 obtain ⟨t224, A30, H⟩ := H
 try dsimp only at H
 have A3 := A_ A30
 clear A30
 by_cases c4 : t224 = true
 ·
  subst c4
  have H1 : (some false) = some r := by rw [if_pos rfl] at H; exact H
  clear H
  have H := H1
  clear H1
  obtain rfl := Option.some.inj H
  go_enter Tryd.func5, Tryd.ntmps5
  go_wp2_with (first | ((with_reducible refine gate_dst (N := 2) rfl ?_); refine box_event ?hg (N := 2) ?hd (cs := #[.int .i64 a0_0, .int .i64 a0_1, .int .i64 a0_2, .int .i64 a0_3, .int .i64 a0_4, .int .i64 a0_5, .int .i64 a0_6, .int .i64 a0_7, .int .i64 a0_8]) (t := 25) ?hr ?_; (case hd => rfl); (case hg => rfl); (case hr => first | (go_simp; done) | (go_simp; rfl)); intro gb223 hg w5 hbox hb; have n0_ := A_ (below_step (by repeat (first | (with_reducible first | exact HB.out | apply below_alloc | apply pw_below_drewN | apply below_drew1) | exact HB.out)) hb); have n1_ := A_ (hbox); have n2_ := A_ ((by rw [hg]; exact (below_size (by repeat (first | (with_reducible first | exact HB.out | apply below_alloc | apply pw_below_drewN | apply below_drew1) | exact HB.out))) : w.heap.size ≤ gb223)); have n3_ := A_ ((by rw [hg]; exact (below_size (by repeat (first | (with_reducible first | exact HB.out | apply below_alloc | apply pw_below_drewN | apply below_drew1) | exact HB.out))) : w.heap.size ≤ gb223)); clear HB; have HB := n0_; have BK223 := n1_; have GW223 := n2_; have GE223 := n3_; clear n0_ n1_ n2_ n3_; clear hb hbox hg) | ((with_reducible refine gate_callee (f := 20) rfl ?_); refine goesL_ (some 6) rfl rfl Tryd.func20 (by kernel_rfl) rfl #[.slice A1 l1.length c1] rfl (by (try simp only [List.map_toArray, List.map_cons, List.map_nil]); first | done | rfl | (simp only [List.length_drop, List.length_take]; rfl)) ?_; (with_reducible refine (cottonpadref04_Great.calls _ _ l1 true _ ?side1 ?side2 A3.out).mono ?_); (case side1 => repeat (first | exact (Kd.C_below HR1.out HB.out) | (with_reducible refine Kd.C_alloc ?_ _) | (with_reducible refine Kd.C_drewN ?_ _) | (with_reducible refine Kd.C_drew ?_))); (case side2 => exact HC1.out); rintro e w' ⟨rfl, ⟨nd, rfl⟩⟩; refine ⟨_, rfl, ?_⟩))
  go_ret
  exact ⟨by first | rfl | (simp [errW_none, errW_some] <;> rfl) | (simp [*, errW_none, errW_some] <;> rfl), by repeat (first | (with_reducible first | exact HB.out | apply below_alloc | apply pw_below_drewN | apply below_drew1 | refine below_set ?_ GE223.out) | exact HB.out)⟩
 ·
  replace c4 := Bool.eq_false_iff.mpr c4
  subst c4
  have H1 : ((cottonpadref04_Check.f k a0_0 a0_1 a0_2 a0_3 a0_4 a0_5 a0_6 a0_7 a0_8 l1).bind fun t225 => (some (t225 == 0))) = some r := by rw [if_neg (show ¬ (false = true) by decide)] at H; exact H
  clear H
  have H := H1
  clear H1
  replace H := Option.bind_eq_some_iff.mp H
  obtain ⟨t225, A60, H⟩ := H
  try dsimp only at H
  have A6 := A_ A60
  clear A60
  obtain rfl := Option.some.inj H
  go_enter Tryd.func5, Tryd.ntmps5
  go_wp2_with (first | ((with_reducible refine gate_dst (N := 2) rfl ?_); refine box_event ?hg (N := 2) ?hd (cs := #[.int .i64 a0_0, .int .i64 a0_1, .int .i64 a0_2, .int .i64 a0_3, .int .i64 a0_4, .int .i64 a0_5, .int .i64 a0_6, .int .i64 a0_7, .int .i64 a0_8]) (t := 25) ?hr ?_; (case hd => rfl); (case hg => rfl); (case hr => first | (go_simp; done) | (go_simp; rfl)); intro gb223 hg w7 hbox hb; have n0_ := A_ (below_step (by repeat (first | (with_reducible first | exact HB.out | apply below_alloc | apply pw_below_drewN | apply below_drew1) | exact HB.out)) hb); have n1_ := A_ (hbox); have n2_ := A_ ((by rw [hg]; exact (below_size (by repeat (first | (with_reducible first | exact HB.out | apply below_alloc | apply pw_below_drewN | apply below_drew1) | exact HB.out))) : w.heap.size ≤ gb223)); have n3_ := A_ ((by rw [hg]; exact (below_size (by repeat (first | (with_reducible first | exact HB.out | apply below_alloc | apply pw_below_drewN | apply below_drew1) | exact HB.out))) : w.heap.size ≤ gb223)); clear HB; have HB := n0_; have BK223 := n1_; have GW223 := n2_; have GE223 := n3_; clear n0_ n1_ n2_ n3_; clear hb hbox hg) | ((with_reducible refine gate_callee (f := 20) rfl ?_); refine goesL_ (some 6) rfl rfl Tryd.func20 (by kernel_rfl) rfl #[.slice A1 l1.length c1] rfl (by (try simp only [List.map_toArray, List.map_cons, List.map_nil]); first | done | rfl | (simp only [List.length_drop, List.length_take]; rfl)) ?_; (with_reducible refine (cottonpadref04_Great.calls _ _ l1 false _ ?side1 ?side2 A3.out).mono ?_); (case side1 => repeat (first | exact (Kd.C_below HR1.out HB.out) | (with_reducible refine Kd.C_alloc ?_ _) | (with_reducible refine Kd.C_drewN ?_ _) | (with_reducible refine Kd.C_drew ?_))); (case side2 => exact HC1.out); rintro e w' ⟨rfl, ⟨nd, rfl⟩⟩; refine ⟨_, rfl, ?_⟩; have hcz8_0 : w7.cell? ⟨gb223, 0, none⟩ = some (.int .i64 a0_0) := (blk_cell BK223.out 0).trans rfl; have hcz8_1 : w7.cell? ⟨gb223, 1, none⟩ = some (.int .i64 a0_1) := (blk_cell BK223.out 1).trans rfl; have hcz8_2 : w7.cell? ⟨gb223, 2, none⟩ = some (.int .i64 a0_2) := (blk_cell BK223.out 2).trans rfl; have hcz8_3 : w7.cell? ⟨gb223, 3, none⟩ = some (.int .i64 a0_3) := (blk_cell BK223.out 3).trans rfl; have hcz8_4 : w7.cell? ⟨gb223, 4, none⟩ = some (.int .i64 a0_4) := (blk_cell BK223.out 4).trans rfl; have hcz8_5 : w7.cell? ⟨gb223, 5, none⟩ = some (.int .i64 a0_5) := (blk_cell BK223.out 5).trans rfl; have hcz8_6 : w7.cell? ⟨gb223, 6, none⟩ = some (.int .i64 a0_6) := (blk_cell BK223.out 6).trans rfl; have hcz8_7 : w7.cell? ⟨gb223, 7, none⟩ = some (.int .i64 a0_7) := (blk_cell BK223.out 7).trans rfl; have hcz8_8 : w7.cell? ⟨gb223, 8, none⟩ = some (.int .i64 a0_8) := (blk_cell BK223.out 8).trans rfl; have hfz8_0 := blk_frozen BK223.out 0; have hfz8_1 := blk_frozen BK223.out 1; have hfz8_2 := blk_frozen BK223.out 2; have hfz8_3 := blk_frozen BK223.out 3; have hfz8_4 := blk_frozen BK223.out 4; have hfz8_5 := blk_frozen BK223.out 5; have hfz8_6 := blk_frozen BK223.out 6; have hfz8_7 := blk_frozen BK223.out 7; have hfz8_8 := blk_frozen BK223.out 8) | (go_at_call 21; (with_reducible refine (cottonpadref04_Check.calls k a0_0 a0_1 a0_2 a0_3 a0_4 a0_5 a0_6 a0_7 a0_8 _ _ l1 t225 _ ?side1 ?side2 A6.out).mono ?_); (case side1 => repeat (first | exact (Kd.C_below HR1.out (by repeat (first | (with_reducible first | exact HB.out | apply below_alloc | apply pw_below_drewN | apply below_drew1 | refine below_set ?_ GE223.out) | exact HB.out))) | (with_reducible refine Kd.C_alloc ?_ _) | (with_reducible refine Kd.C_drewN ?_ _) | (with_reducible refine Kd.C_drew ?_))); (case side2 => exact HC1.out); rintro e w9 ⟨rfl, hb⟩; have n0_ := bb_ BK223.out hb; have n1_ := A_ (below_step (by repeat (first | (with_reducible first | exact HB.out | apply below_alloc | apply pw_below_drewN | apply below_drew1 | refine below_set ?_ GE223.out) | exact HB.out)) hb); clear BK223; clear HB; have BK223 := n0_; have HB := n1_; clear n0_ n1_; (try clear hb); (try clear hb2); (try clear hk); (try clear hi)))
  go_ret
  exact ⟨by first | rfl | (simp [errW_none, errW_some] <;> rfl) | (simp [*, errW_none, errW_some] <;> rfl), by repeat (first | (with_reducible first | exact HB.out | apply below_alloc | apply pw_below_drewN | apply below_drew1 | refine below_set ?_ GE223.out) | exact HB.out)⟩
/-! ### cottonpadlaw04_choose: function 7 -/
def cottonpadlaw04_choose.f (l0 : List Int) (a1 : Int) : Option (Int) := if (l0.length : Int) = 0 then (some 0) else (if 0 ≤ (Int.tmod a1 (l0.length : Int)) then (if (Int.tmod a1 (l0.length : Int)) < (l0.length : Int) then (some (wrap64 (rd l0 (Int.tmod a1 (l0.length : Int))))) else (none)) else (none))
set_option maxHeartbeats 8000000 in
set_option maxRecDepth 100000 in
theorem cottonpadlaw04_choose.calls (A0 : Option Addr) (c0 : Nat) (l0 : List Int) (a1 : Int) (r : Int) (w : World) (hr0 : Kd.C (Kd.int .u32) w A0 l0.length l0) (hc0 : l0.length ≤ c0) (h : cottonpadlaw04_choose.f l0 a1 = some r) :
  Calls Tryd.prog 7 #[.slice A0 l0.length c0, .int .i64 a1] w fun e w' => e = .returned (.int .i64 r) ∧ Drawn0 w w' := by
 have HR0 := A_ hr0
 have HC0 := A_ hc0
 clear hr0 hc0
 have H : (if (l0.length : Int) = 0 then (some 0) else (if 0 ≤ (Int.tmod a1 (l0.length : Int)) then (if (Int.tmod a1 (l0.length : Int)) < (l0.length : Int) then (some (wrap64 (rd l0 (Int.tmod a1 (l0.length : Int))))) else (none)) else (none))) = some r := h
 clear h
 by_cases c3 : (l0.length : Int) = 0
 ·
  rw [if_pos c3] at H
  have c3b0 : ((l0.length : Int) == 0) = true := beq_iff_eq.mpr c3
  have c3b1 : ((l0.length : Int) != 0) = false := bne_eq_false_iff_eq.mpr c3
  clear c3
  obtain rfl := Option.some.inj H
  go_enter Tryd.func7, Tryd.ntmps7
  go_wp2
  go_ret
  exact ⟨by first | rfl | (simp; done) | (simp [*]; done), by repeat (first | exact Drawn0.refl _ | apply Drawn0.step)⟩
 ·
  rw [if_neg c3] at H
  have c3b0 : ((l0.length : Int) == 0) = false := beq_eq_false_iff_ne.mpr c3
  have c3b1 : ((l0.length : Int) != 0) = true := bne_iff_ne.mpr c3
  have c3b2 : ¬ (l0 = []) := fun h_ => c3 (by rw [h_]; rfl)
  obtain ⟨ji4, hji4⟩ : ∃ j_ : Int, (Int.tmod a1 (l0.length : Int)) = j_ := ⟨_, rfl⟩
  replace H : (if 0 ≤ (ji4) then (if (ji4) < (l0.length : Int) then (some (wrap64 (rd l0 (ji4)))) else (none)) else (none)) = some r := by first | (rw [hji4] at H; exact H) | (simp only [hji4] at H ⊢; exact H)
  by_cases c5 : 0 ≤ (ji4)
  ·
   rw [if_pos c5] at H
   have c5b0 : decide (0 ≤ (ji4)) = true := decide_eq_true c5
   clear c5
   by_cases c6 : (ji4) < (l0.length : Int)
   ·
    rw [if_pos c6] at H
    have c6b0 : decide ((ji4) < (l0.length : Int)) = true := decide_eq_true c6
    clear c6
    obtain rfl := Option.some.inj H
    have p226 : 0 ≤ ((ji4) : Int) := of_decide_eq_true (by first | (with_reducible assumption) | assumption)
    have q226 : (ji4) < (l0.length : Int) := of_decide_eq_true (by first | (with_reducible assumption) | assumption)
    obtain ⟨ad226, e226, hx226_0⟩ := Kd.at_int HR0.out (ji4) p226 q226
    cases e226
    replace p226 := eq_true p226
    replace q226 := eq_true q226
    go_enter Tryd.func7, Tryd.ntmps7
    go_wp2
    go_ret
    exact ⟨by first | rfl | (simp; done) | (simp only [← hji4] <;> (first | rfl | simp)) | (simp [*]; done), by repeat (first | exact Drawn0.refl _ | apply Drawn0.step)⟩
   ·
    rw [if_neg c6] at H
    exact absurd H (by simp)
  ·
   rw [if_neg c5] at H
   exact absurd H (by simp)
end Go.Proofs.YtaijhbliagjeaaaDoor.PA
namespace Go.Proofs.YtaijhbliagjeaaaDoor.Pure
open Go.RowKit Go.Proofs.YtaijhbliagjeaaaDoor Go.Proofs.YtaijhbliagjeaaaDoor.PA Go.Proofs.YtaijhbliagjeaaaDoor.PR Go.Proofs.YtaijhbliagjeaaaDoor.PC1 Go.Proofs.YtaijhbliagjeaaaDoor.PC2 Go.Proofs.YtaijhbliagjeaaaDoorW.PrintWords Go.Proofs.YtaijhbliagjeaaaDoorW.PrintLast Go.Proofs.YtaijhbliagjeaaaDoorW.PrintMore
set_option linter.unusedVariables false
set_option linter.unusedSimpArgs false
theorem ready_eq (k : Nat) (b0 b1 f0 f1 j0 j1 g0 g1 dr : Int) (l : List Int) (hk : 150 < k) : cottonpadlaw04_ready.f k b0 b1 f0 f1 j0 j1 g0 g1 dr l = some (decide (HoodOK b0 b1 f0 f1 j0 j1 g0 g1 dr ∧ ReadsOK l)) := by
  unfold cottonpadlaw04_ready.f cottonpadref04_Great.f
  rw [refCheck_eq _ _ _ _ _ _ _ _ _ _ _ hk]
  simp only [Option.bind_some, decide_eq_true_eq]
  by_cases h : (l.length : Int) > 150
  · rw [if_pos h]
    congr 1
    exact (decide_eq_false (fun h' => by have := h'.2.1; omega)).symm
  · rw [if_neg h]
    congr 1
    rw [Bool.eq_iff_iff, beq_iff_eq, checkS_zero, decide_eq_true_iff]
theorem choose_ok {l : List Int} (h : U32 l) (i : Int) (h0 : 0 ≤ i) : ∃ c, cottonpadlaw04_choose.f l i = some c ∧ 0 ≤ c ∧ c ≤ 4294967295 := by
  unfold cottonpadlaw04_choose.f
  by_cases hl : (l.length : Int) = 0
  · exact ⟨0, by rw [if_pos hl], by omega, by omega⟩
  · have e : Int.tmod i l.length = i % l.length := Int.tmod_eq_emod_of_nonneg h0
    have m0 : 0 ≤ i % (l.length : Int) := Int.emod_nonneg _ hl
    have m1 : i % (l.length : Int) < l.length := Int.emod_lt_of_pos _ (by omega)
    have hx := h.2 _ (rd_mem l (i % l.length) m0 m1)
    refine ⟨rd l (i % l.length), ?_, hx.1, hx.2⟩
    rw [if_neg hl, e, if_pos m0, if_pos m1, w64 (by omega) (by omega)]
theorem alive_big : cottonpadlaw04_alive.f 1000 = some true := by decide +kernel
theorem alive_more (n : Nat) : cottonpadlaw04_alive.f (1000 + n) = some true := by
  induction n with
  | zero => exact alive_big
  | succ n ih => exact cottonpadlaw04_alive.mono (1000 + n) true ih
end Go.Proofs.YtaijhbliagjeaaaDoor.Pure
namespace Go.Proofs.YtaijhbliagjeaaaDoor.Pure
open Go.RowKit Go.Proofs.YtaijhbliagjeaaaDoor Go.Proofs.YtaijhbliagjeaaaDoor.PA Go.Proofs.YtaijhbliagjeaaaDoor.PR Go.Proofs.YtaijhbliagjeaaaDoor.PC1 Go.Proofs.YtaijhbliagjeaaaDoor.PC2 Go.Proofs.YtaijhbliagjeaaaDoorW.PrintWords Go.Proofs.YtaijhbliagjeaaaDoorW.PrintLast Go.Proofs.YtaijhbliagjeaaaDoorW.PrintMore
set_option linter.unusedVariables false
set_option linter.unusedSimpArgs false
set_option linter.unusedSectionVars false
section wider
variable {b0 b1 f0 f1 j0 j1 g0 g1 dr B0 B1 F0 F1 J0 J1 G0 D : Int} {l : List Int} (hH : HoodOK b0 b1 f0 f1 j0 j1 g0 g1 dr) (hW : HoodOK B0 B1 F0 F1 J0 J1 G0 g1 D) (hl : ReadsOK l)
  (hb0 : B0 ≤ b0) (hb1 : b1 ≤ B1) (hf0 : F0 ≤ f0) (hf1 : f1 ≤ F1) (hj0 : J0 ≤ j0) (hj1 : j1 ≤ J1) (hg0 : G0 ≤ g0) (hd : dr ≤ D)
include hH hW hl hb0 hb1 hf0 hf1 hj0 hj1 hg0 hd
theorem wider_heat (i : Int) : heatF false B0 B1 F0 F1 J0 J1 D (rd l i) ≤ heatF false b0 b1 f0 f1 j0 j1 dr (rd l i) ∧ heatF true b0 b1 f0 f1 j0 j1 dr (rd l i) ≤ heatF true B0 B1 F0 F1 J0 J1 D (rd l i) := by
  have hr := rd_ok hl i
  obtain ⟨⟨kb0, kb1, kb2⟩, ⟨kf0, kf1, kf2⟩, ⟨kj0, kj1, kj2⟩, -, kd0, kd1⟩ := id hH
  have h1 := (heat_in hW (y := rd l i) (b := b0) (f := f0) (j := j0) (o := dr) hr.1 hr.2 hb0 (by omega) hf0 (by omega) hj0 (by omega) (by omega) hd).2.1
  have h2 := (heat_in hW (y := rd l i) (b := b1) (f := f1) (j := j1) (o := -dr) hr.1 hr.2 (by omega) hb1 (by omega) hf1 (by omega) hj1 (by omega) (by omega)).2.2
  refine ⟨Int.le_trans h1 (Int.le_of_eq rfl), Int.le_trans (Int.le_of_eq rfl) h2⟩
theorem wider_sum (fr x : Int) : ∀ d : Nat, sumH false B0 B1 F0 F1 J0 J1 D l fr x d ≤ sumH false b0 b1 f0 f1 j0 j1 dr l fr x d ∧ sumH true b0 b1 f0 f1 j0 j1 dr l fr x d ≤ sumH true B0 B1 F0 F1 J0 J1 D l fr x d
  | 0 => by simp [sumH]
  | d + 1 => by
    have ih := wider_sum fr x d
    have h := wider_heat hH hW hl hb0 hb1 hf0 hf1 hj0 hj1 hg0 hd (fr + d + x)
    simp only [sumH]
    omega
theorem wider_sums (s t : Int) : (sumS B0 B1 F0 F1 J0 J1 G0 g1 D l s t).1 ≤ (sumS b0 b1 f0 f1 j0 j1 g0 g1 dr l s t).1 ∧ (sumS b0 b1 f0 f1 j0 j1 g0 g1 dr l s t).2 ≤ (sumS B0 B1 F0 F1 J0 J1 G0 g1 D l s t).2 := by
  have kg := hH.2.2.2.1.2.1
  have s1 := sumS_spec b0 b1 f0 f1 j0 j1 g0 g1 dr l s t kg
  have s2 := sumS_spec B0 B1 F0 F1 J0 J1 G0 g1 D l s t (by omega)
  obtain ⟨x, x0, x1, hx⟩ := s1.lowAt
  obtain ⟨y, y0, y1, hy⟩ := s1.highAt
  have p1 := s2.low x (by omega) x1
  have p2 := s2.high y (by omega) y1
  have q1 := (wider_sum hH hW hl hb0 hb1 hf0 hf1 hj0 hj1 hg0 hd s x (t - s).toNat).1
  have q2 := (wider_sum hH hW hl hb0 hb1 hf0 hf1 hj0 hj1 hg0 hd s y (t - s).toNat).2
  try simp only at hx hy p1 p2
  omega
theorem wider_reach {lv sc x i : Int} (h : Reach (hiA b0 b1 f0 f1 j0 j1 dr l x) (loA b0 b1 f0 f1 j0 j1 dr l x) lv sc i) : Reach (hiA B0 B1 F0 F1 J0 J1 D l x) (loA B0 B1 F0 F1 J0 J1 D l x) lv sc i := by
  obtain ⟨h0, h1, h2, h3⟩ := h
  have k := fun j => wider_heat hH hW hl hb0 hb1 hf0 hf1 hj0 hj1 hg0 hd (j + x)
  unfold hiA loA at *
  exact ⟨h0, h1, Int.le_trans h2 (k i).2, fun j q0 q1 => Int.lt_of_le_of_lt (k j).1 (h3 j q0 q1)⟩
theorem wider_first {lv sc a b n A B N : Int} (s : FirstSpec (hiA b0 b1 f0 f1 j0 j1 dr l) (loA b0 b1 f0 f1 j0 j1 dr l) lv sc g0 g1 a b n) (S : FirstSpec (hiA B0 B1 F0 F1 J0 J1 D l) (loA B0 B1 F0 F1 J0 J1 D l) lv sc G0 g1 A B N) :
    (N ≠ 1 → n = N) ∧ (n ≠ 0 → A ≤ a ∧ b ≤ B) := by
  have up := fun x i h => wider_reach hH hW hl hb0 hb1 hf0 hf1 hj0 hj1 hg0 hd (lv := lv) (sc := sc) (x := x) (i := i) h
  have k1 := s.known
  have k2 := S.known
  refine ⟨fun h => ?_, fun h => ?_⟩
  · rcases k2 with e | e | e
    · by_cases e' : n = 0
      · omega
      · obtain ⟨x, x0, x1, r⟩ := s.first e'
        exact absurd (up x a r) ((S.no e).2.2 x a (by omega) x1)
    · omega
    · rw [e]
      refine s.sure.2 fun x x0 x1 => ?_
      obtain ⟨j, j0', j1', hj⟩ := S.sure.1 e x (by omega) x1
      have := (wider_heat hH hW hl hb0 hb1 hf0 hf1 hj0 hj1 hg0 hd (j + x)).1
      exact ⟨j, j0', j1', Int.le_trans hj this⟩
  · obtain ⟨x, x0, x1, r⟩ := s.first h
    obtain ⟨y, y0, y1, q⟩ := s.last h
    have h1 := S.all x a (by omega) x1 (up x a r)
    have h2 := S.all y b (by omega) y1 (up y b q)
    omega
end wider
end Go.Proofs.YtaijhbliagjeaaaDoor.Pure
namespace Go.Proofs.YtaijhbliagjeaaaDoor
open Go.ChangeShapes Go.WideShapes Go.RowKit
set_option linter.unusedVariables false
set_option linter.unusedSimpArgs false
def laidL : List (String × DataW Unit) := [("cottonpad/burn.ends", Rows.laid_cottonpad_burn_ends)]
theorem gEnds : Tryd.prog.globalNamed "cottonpad/burn.ends" = some 0 := by kernel_rfl
theorem tEnds : (Tryd.prog.globals[0]?).map (·.type) = some 75 := by kernel_rfl
theorem door_met (os : Os) (args : Array Value) : laidMetH Tryd.prog laidL ((World.doorLaid Tryd.prog 400 os).forCall (fun _ _ => 0) ⟨#[], args, []⟩).memory :=
  laidMetH_of_parts3 (fuel := 8) (laidMet_of_run' 8 (by kernel_rfl) (by kernel_rfl)) (by kernel_rfl) (by kernel_rfl)
theorem trod_pair {P : Program} {H : Type} {enc : TypeId × Value → H} {w : World} {fuel : Nat} {t ta tb : TypeId} {f g : Field} {a b : Value} {d : DataW H} {ps : List MemPlace}
    (ht : P.underlying t = some (.struct #[f, g])) (h1 : f.type = ta) (h2 : f.offset = 0) (h3 : g.type = tb) (h4 : g.offset = 1) (hA : P.cellsOf ta = 1) (hB : P.cellsOf tb = 1)
    (h : DataW.trod enc P w 0 (fun _ => true) true (fuel + 1) t [a, b] = some (d, ps)) :
    ∃ x y, DataW.trod enc P w 0 (fun _ => true) true fuel ta [a] = some x ∧ DataW.trod enc P w 0 (fun _ => true) true fuel tb [b] = some y ∧ d = .agg [x.1, y.1] := by
  unfold DataW.trod at h
  rw [ht] at h
  simp only [List.length_cons, List.length_nil] at h
  split at h
  · simp only [List.mapM_cons, List.mapM_nil, h1, h2, h3, h4, hA, hB, List.drop_zero, List.take_succ_cons, List.take_zero, List.drop_succ_cons, Option.map_eq_some_iff] at h
    obtain ⟨xs, h, e⟩ := h
    cases hx : DataW.trod enc P w 0 (fun _ => true) true fuel ta [a] with
    | none => simp [hx] at h
    | some x =>
      cases hy : DataW.trod enc P w 0 (fun _ => true) true fuel tb [b] with
      | none => simp [hx, hy] at h
      | some y =>
        simp [hx, hy] at h
        subst h
        simp at e
        exact ⟨x, y, rfl, rfl, e.1.symm⟩
  · simp at h
theorem trod_two {P : Program} {H : Type} {enc : TypeId × Value → H} {w : World} {fuel : Nat} {t te : TypeId} {a b c e : Value} {d : DataW H} {ps : List MemPlace}
    (ht : P.underlying t = some (.array 2 te)) (hE : P.cellsOf te = 2)
    (h : DataW.trod enc P w 0 (fun _ => true) true (fuel + 1) t [a, b, c, e] = some (d, ps)) :
    ∃ x y, DataW.trod enc P w 0 (fun _ => true) true fuel te [a, b] = some x ∧ DataW.trod enc P w 0 (fun _ => true) true fuel te [c, e] = some y ∧ d = .agg [x.1, y.1] := by
  unfold DataW.trod at h
  rw [ht] at h
  simp only [List.length_cons, List.length_nil] at h
  split at h
  · simp only [show List.range 2 = [0, 1] from rfl, List.mapM_cons, List.mapM_nil, hE, Nat.zero_mul, Nat.one_mul, List.drop_zero, List.take_succ_cons, List.take_zero, List.drop_succ_cons, Option.map_eq_some_iff] at h
    obtain ⟨xs, h, e'⟩ := h
    cases hx : DataW.trod enc P w 0 (fun _ => true) true fuel te [a, b] with
    | none => simp [hx] at h
    | some x =>
      cases hy : DataW.trod enc P w 0 (fun _ => true) true fuel te [c, e] with
      | none => simp [hx, hy] at h
      | some y =>
        simp [hx, hy] at h
        subst h
        simp at e'
        exact ⟨x, y, rfl, rfl, e'.1.symm⟩
  · simp at h
theorem trod_len {P : Program} {H : Type} {enc : TypeId × Value → H} {w : World} {fuel : Nat} {t te : TypeId} {n : Nat} {l : List Value} {x : DataW H × List MemPlace}
    (ht : P.underlying t = some (.array n te)) (h : DataW.trod enc P w 0 (fun _ => true) true fuel t l = some x) : l.length = P.cellsOf t := by
  cases fuel with
  | zero => simp [DataW.trod] at h
  | succ m =>
    by_cases hl : l.length = P.cellsOf t
    · exact hl
    · exfalso
      unfold DataW.trod at h
      rw [ht] at h
      simp [hl] at h
set_option maxRecDepth 100000 in
theorem glob_of_laid {W : World} (h : laidMetH Tryd.prog laidL W) : GlobOK W := by
  obtain ⟨g, t, cs, fuel, p, hg, ht, hv, hd⟩ := h.funcs (n := "cottonpad/burn.ends") (List.mem_cons_self ..)
  obtain rfl := Option.some.inj (gEnds.symm.trans hg)
  obtain rfl := Option.some.inj (tEnds.symm.trans ht)
  have hd' : DataW.trod (funcToken Tryd.prog) Tryd.prog W 0 (fun _ => true) true fuel 75 cs.toList = some (.agg [.agg [.held [99, 111, 116, 116, 111, 110, 112, 97, 100, 47, 98, 117, 114, 110, 46, 101, 110, 100, 115, 36, 49], .held [99, 111, 116, 116, 111, 110, 112, 97, 100, 47, 98, 117, 114, 110, 46, 101, 110, 100, 115, 36, 50]], .agg [.held [99, 111, 116, 116, 111, 110, 112, 97, 100, 47, 98, 117, 114, 110, 46, 101, 110, 100, 115, 36, 51], .held [99, 111, 116, 116, 111, 110, 112, 97, 100, 47, 98, 117, 114, 110, 46, 101, 110, 100, 115, 36, 52]]], p) := hd
  have hlen : cs.toList.length = 4 := (trod_len Tryd.underlying75 hd').trans (by kernel_rfl)
  obtain ⟨l⟩ := cs
  match l, hlen with
  | [a, b, c, e], _ =>
    cases fuel with
    | zero => simp [DataW.trod] at hd'
    | succ n =>
      obtain ⟨x, y, hx, hy, e1⟩ := trod_two (te := 74) Tryd.underlying75 (by kernel_rfl) hd'
      simp only [DataW.agg.injEq, List.cons.injEq, and_true] at e1
      cases n with
      | zero => simp [DataW.trod] at hx
      | succ n =>
        obtain ⟨x1, x2, hx1, hx2, e2⟩ := trod_pair (ta := 71) (tb := 72) Tryd.underlying74 rfl rfl rfl rfl (by kernel_rfl) (by kernel_rfl) (show _ = some (x.1, x.2) from hx)
        obtain ⟨y1, y2, hy1, hy2, e3⟩ := trod_pair (ta := 71) (tb := 72) Tryd.underlying74 rfl rfl rfl rfl (by kernel_rfl) (by kernel_rfl) (show _ = some (y.1, y.2) from hy)
        rw [← e1.1] at e2
        rw [← e1.2] at e3
        simp only [DataW.agg.injEq, List.cons.injEq, and_true] at e2 e3
        obtain ⟨x1d, x1p⟩ := x1
        obtain ⟨x2d, x2p⟩ := x2
        obtain ⟨y1d, y1p⟩ := y1
        obtain ⟨y2d, y2p⟩ := y2
        simp only at e2 e3
        obtain ⟨rfl, rfl⟩ := e2
        obtain ⟨rfl, rfl⟩ := e3
        obtain rfl := func_of_trod (f0 := 62) Tryd.underlying71 (by kernel_rfl) hx1
        obtain rfl := func_of_trod (f0 := 63) Tryd.underlying72 (by kernel_rfl) hx2
        obtain rfl := func_of_trod (f0 := 64) Tryd.underlying71 (by kernel_rfl) hy1
        obtain rfl := func_of_trod (f0 := 65) Tryd.underlying72 (by kernel_rfl) hy2
        unfold World.var? at hv
        rw [gEnds] at hv
        simp only [Option.bind_some] at hv
        unfold GlobOK tabC
        cases hh : W.heap[0]? with
        | none => simp [hh] at hv
        | some o =>
          cases o <;> simp [hh] at hv
          subst hv
          exact ⟨_, _, rfl⟩
end Go.Proofs.YtaijhbliagjeaaaDoor
namespace Go.Proofs.YtaijhbliagjeaaaDoor
open Go.RowKit
set_option linter.unusedVariables false
set_option linter.unusedSimpArgs false
/-! ### slots -/
abbrev Slots := List (Nat × Value)
def slot (i : Nat) : Slots → Option Value
  | [] => none
  | p :: r => bif Nat.beq p.1 i then some p.2 else slot i r
def ev (σ : Slots) : Operand → Option Value
  | .tmp t => slot t σ
  | .const v => some v
  | .global g => some (.pointer (some ⟨g, 0, none⟩))
  | .func f => some (.func (.func f) #[] #[])
def evs (σ : Slots) : List Operand → Option (List Value)
  | [] => some []
  | x :: r => match ev σ x, evs σ r with
    | some v, some vs => some (v :: vs)
    | _, _ => none
def putS : Option Tmp → Value → Slots → Slots
  | some d, v, σ => (d, v) :: σ
  | none, _, σ => σ
def dstOK (N : Nat) : Option Tmp → Bool
  | some d => Nat.blt d N
  | none => true
structure SOK (N : Nat) (ds : List Deferred) (σ : Slots) (a : Act) : Prop where
  sz : a.tmps.size = N
  sl : ∀ i v, slot i σ = some v → a.tmps[i]? = some v
  df : a.defers = ds
theorem getD_of {α : Type} {l : Array α} {i : Nat} {v d : α} (h : l[i]? = some v) : l.getD i d = v := by
  rw [Array.getD_eq_getD_getElem?, h]; rfl
theorem SOK.ev {N : Nat} {ds : List Deferred} {σ : Slots} {a : Act} (h : SOK N ds σ a) {x : Operand} {v : Value} (e : ev σ x = some v) : a.eval x = v := by
  cases x with
  | tmp t => exact getD_of (h.sl t v e)
  | const c => exact Option.some.inj e
  | global g => exact Option.some.inj e
  | func f => exact Option.some.inj e
theorem SOK.evs {N : Nat} {ds : List Deferred} {σ : Slots} {a : Act} (h : SOK N ds σ a) : ∀ {xs : List Operand} {vs : List Value}, evs σ xs = some vs → xs.map a.eval = vs
  | [], vs, e => by cases e; rfl
  | x :: r, vs, e => by
    unfold Go.Proofs.YtaijhbliagjeaaaDoor.evs at e
    split at e
    · rename_i v ws h1 h2
      cases e
      rw [List.map_cons, h.ev h1, h.evs h2]
    · cases e
theorem SOK.put {N : Nat} {ds : List Deferred} {σ : Slots} {a : Act} (h : SOK N ds σ a) {d : Option Tmp} (hd : dstOK N d = true) (v : Value) : SOK N ds (putS d v σ) (a.put d v) := by
  cases d with
  | none => exact h
  | some d =>
    have hlt : d < N := by simpa [dstOK, Nat.blt_eq] using hd
    refine ⟨by simp [Act.put, h.sz], fun i u hu => ?_, h.df⟩
    simp only [Act.put]
    unfold putS slot at hu
    cases hb : Nat.beq d i with
    | true =>
      have e : d = i := Nat.eq_of_beq_eq_true hb
      simp only [hb, cond_true, Option.some.injEq] at hu
      subst e
      subst hu
      rw [Array.getElem?_setIfInBounds_self, if_pos (by rw [h.sz]; exact hlt)]
    | false =>
      have e : d ≠ i := fun e => by subst e; simp at hb
      simp only [hb, cond_false] at hu
      rw [Array.getElem?_setIfInBounds_ne e]
      exact h.sl i u hu
/-- these slots hold, too -/
def subS : Slots → Slots → Prop
  | [], _ => True
  | p :: r, σ => slot p.1 σ = some p.2 ∧ subS r σ
theorem SOK.sub {N : Nat} {ds : List Deferred} {σ : Slots} {a : Act} (h : SOK N ds σ a) : ∀ {σ' : Slots}, subS σ' σ → SOK N ds σ' a
  | [], _ => ⟨h.sz, (fun i v e => by cases e), h.df⟩
  | p :: r, ⟨h1, h2⟩ => by
    have ih := h.sub h2
    refine ⟨h.sz, fun i v e => ?_, h.df⟩
    unfold slot at e
    cases hb : Nat.beq p.1 i with
    | true =>
      have e' : p.1 = i := Nat.eq_of_beq_eq_true hb
      simp only [hb, cond_true, Option.some.injEq] at e
      subst e'
      subst e
      exact h.sl _ _ h1
    | false =>
      simp only [hb, cond_false] at e
      exact ih.sl i v e
/-! ### blocks -/
abbrev HP := Obj → Prop
abbrev Hp := List (Nat × Bool × HP)
/-- a block of cells -/
def cel (cs : List Value) (t : TypeId) : HP := fun o => o = .cells cs.toArray t (0, 0)
/-- what lay in the world w0 lies as_ it lay, but for the blocks of X -/
structure Kx (X : Nat → Prop) (w0 w : World) : Prop where
  os : w.os = w0.os
  tape : w.tape = w0.tape
  output : w.output = w0.output
  size : w0.heap.size ≤ w.heap.size
  block : ∀ k, k < w0.heap.size → ¬ X k → w.heap[k]? = w0.heap[k]?
def XNone : Nat → Prop := fun _ => False
theorem Kx.refl (X : Nat → Prop) (w : World) : Kx X w w := ⟨rfl, rfl, rfl, Nat.le_refl _, fun _ _ _ => rfl⟩
theorem Kx.below {w0 w : World} (h : Kx XNone w0 w) : Below w0.heap.size w0 w := ⟨h.os, h.tape, h.output, h.size, fun k hk => h.block k hk (fun x => x)⟩
theorem Kx.of_below {X : Nat → Prop} {w0 w : World} (h : Below w0.heap.size w0 w) : Kx X w0 w := ⟨h.os, h.tape, h.output, h.size, fun k hk _ => h.block k hk⟩
theorem Kx.cell {X : Nat → Prop} {w0 w : World} (h : Kx X w0 w) {p : Addr} {v : Value} (hc : w0.cell? p = some v) (hx : ¬ X p.block) : w.cell? p = some v := by
  have hb := World.block_lt_of_cell? w0 p hc
  unfold World.cell? at hc ⊢
  rw [h.block _ hb hx]
  exact hc
structure WOK (w0 : World) (X : Nat → Prop) (η : Hp) (w : World) : Prop where
  kx : Kx X w0 w
  bl : ∀ e ∈ η, ∃ o, w.heap[e.1]? = some o ∧ e.2.2 o
  nd : (η.map (·.1)).Nodup
  ow : ∀ e ∈ η, e.2.1 = true → w0.heap.size ≤ e.1 ∨ X e.1
theorem WOK.start (X : Nat → Prop) (w : World) : WOK w X [] w := ⟨Kx.refl X w, by simp, by simp, by simp⟩
theorem WOK.lt {w0 : World} {X : Nat → Prop} {η : Hp} {w : World} (h : WOK w0 X η w) {e : Nat × Bool × HP} (he : e ∈ η) : e.1 < w.heap.size := by
  obtain ⟨o, h1, _⟩ := h.bl e he
  exact (Array.getElem?_eq_some_iff.1 h1).1
theorem WOK.alloc {w0 : World} {X : Nat → Prop} {η : Hp} {w : World} (h : WOK w0 X η w) (o : Obj) (φ : HP) (hφ : φ o) : WOK w0 X ((w.heap.size, true, φ) :: η) (w.alloc o) := by
  refine ⟨⟨h.kx.os, h.kx.tape, h.kx.output, by simp; have := h.kx.size; omega, fun k hk hx => (Below.heap_alloc w o k (Nat.lt_of_lt_of_le hk h.kx.size)).trans (h.kx.block k hk hx)⟩, ?_, ?_, ?_⟩
  · intro e he
    rcases List.mem_cons.1 he with rfl | he
    · exact ⟨o, heap_alloc_new w o, hφ⟩
    · obtain ⟨o', h1, h2⟩ := h.bl e he
      exact ⟨o', (Below.heap_alloc w o _ (h.lt he)).trans h1, h2⟩
  · simp only [List.map_cons, List.nodup_cons]
    refine ⟨fun hm => ?_, h.nd⟩
    obtain ⟨e, he, h1⟩ := List.mem_map.1 hm
    have := h.lt he
    omega
  · intro e he hw
    rcases List.mem_cons.1 he with rfl | he
    · exact .inl h.kx.size
    · exact h.ow e he hw
/-- a block of the list reads otherwise now -/
inductive Upd (b : Nat) (φ' : HP) : Hp → Hp → Prop
  | head {φ : HP} {r : Hp} : Upd b φ' ((b, true, φ) :: r) ((b, true, φ') :: r)
  | tail {e : Nat × Bool × HP} {r r' : Hp} (h : Upd b φ' r r') : Upd b φ' (e :: r) (e :: r')
theorem Upd.keys {b : Nat} {φ' : HP} {η η' : Hp} (h : Upd b φ' η η') : η'.map (·.1) = η.map (·.1) := by
  induction h with
  | head => rfl
  | tail _ ih => simp only [List.map_cons, ih]
theorem Upd.has {b : Nat} {φ' : HP} {η η' : Hp} (h : Upd b φ' η η') : ∃ φ, (b, true, φ) ∈ η := by
  induction h with
  | head => exact ⟨_, List.mem_cons_self ..⟩
  | tail _ ih => obtain ⟨φ, h⟩ := ih; exact ⟨φ, List.mem_cons_of_mem _ h⟩
theorem Upd.mem {b : Nat} {φ' : HP} {η η' : Hp} (h : Upd b φ' η η') : ∀ e ∈ η', e = (b, true, φ') ∨ e ∈ η := by
  induction h with
  | head =>
    intro e he
    rcases List.mem_cons.1 he with rfl | he
    · exact .inl rfl
    · exact .inr (List.mem_cons_of_mem _ he)
  | tail _ ih =>
    intro e he
    rcases List.mem_cons.1 he with rfl | he
    · exact .inr (List.mem_cons_self ..)
    · rcases ih e he with h | h
      · exact .inl h
      · exact .inr (List.mem_cons_of_mem _ h)
theorem Upd.memNe {b : Nat} {φ' : HP} {η η' : Hp} (h : Upd b φ' η η') (hn : (η.map (·.1)).Nodup) : ∀ e ∈ η', e = (b, true, φ') ∨ (e ∈ η ∧ e.1 ≠ b) := by
  induction h with
  | head =>
    intro e he
    rcases List.mem_cons.1 he with rfl | he
    · exact .inl rfl
    · refine .inr ⟨List.mem_cons_of_mem _ he, fun q => ?_⟩
      simp only [List.map_cons, List.nodup_cons] at hn
      exact hn.1 (List.mem_map.2 ⟨e, he, q⟩)
  | tail h ih =>
    intro e he
    simp only [List.map_cons, List.nodup_cons] at hn
    rcases List.mem_cons.1 he with rfl | he
    · refine .inr ⟨List.mem_cons_self .., fun q => ?_⟩
      obtain ⟨φ, hb⟩ := h.has
      exact hn.1 (List.mem_map.2 ⟨_, hb, q.symm⟩)
    · rcases ih hn.2 e he with h | h
      · exact .inl h
      · exact .inr ⟨List.mem_cons_of_mem _ h.1, h.2⟩
/-- what differs lies in one block alone -/
structure OneB (b : Nat) (w w' : World) : Prop where
  os : w'.os = w.os
  tape : w'.tape = w.tape
  output : w'.output = w.output
  size : w'.heap.size = w.heap.size
  block : ∀ k, k ≠ b → w'.heap[k]? = w.heap[k]?
theorem OneB.refl (b : Nat) (w : World) : OneB b w w := ⟨rfl, rfl, rfl, rfl, fun _ _ => rfl⟩
theorem OneB.trans {b : Nat} {w w1 w2 : World} (h : OneB b w w1) (k : OneB b w1 w2) : OneB b w w2 := ⟨k.os.trans h.os, k.tape.trans h.tape, k.output.trans h.output, k.size.trans h.size, fun i hi => (k.block i hi).trans (h.block i hi)⟩
theorem OneB.setCell (w : World) (b i : Nat) (v : Value) : OneB b w (w.setCell ⟨b, i, none⟩ v) := ⟨rfl, rfl, rfl, by simp, fun k hk => Below.heap_setCell w _ v k hk⟩
theorem OneB.putObj (w : World) (b : Nat) (o : Obj) : OneB b w (w.putObj b o) := ⟨rfl, rfl, rfl, by simp, fun k hk => World.putObj_heap_other hk⟩
theorem WOK.upd {w0 : World} {X : Nat → Prop} {η η' : Hp} {w w' : World} {b : Nat} {φ' : HP} (h : WOK w0 X η w) (hU : Upd b φ' η η') (h1 : OneB b w w') {o : Obj} (ho : w'.heap[b]? = some o) (hφ : φ' o) : WOK w0 X η' w' := by
  obtain ⟨φ, hb⟩ := hU.has
  have hown := h.ow _ hb rfl
  refine ⟨⟨h1.os.trans h.kx.os, h1.tape.trans h.kx.tape, h1.output.trans h.kx.output, by rw [h1.size]; exact h.kx.size, fun k hk hx => ?_⟩, ?_, by rw [hU.keys]; exact h.nd, ?_⟩
  · refine (h1.block k (fun e => ?_)).trans (h.kx.block k hk hx)
    subst e
    rcases hown with h2 | h2
    · exact absurd hk (Nat.not_lt.2 h2)
    · exact hx h2
  · intro e he
    rcases hU.memNe h.nd e he with rfl | ⟨he, hne⟩
    · exact ⟨o, ho, hφ⟩
    · obtain ⟨o', h2, h3⟩ := h.bl e he
      exact ⟨o', (h1.block _ hne).trans h2, h3⟩
  · intro e he hw
    rcases hU.mem e he with rfl | he
    · exact hown
    · exact h.ow e he hw
theorem WOK.below {w0 : World} {X : Nat → Prop} {η : Hp} {w w' : World} (h : WOK w0 X η w) (hb : Below w.heap.size w w') : WOK w0 X η w' := by
  refine ⟨⟨hb.os.trans h.kx.os, hb.tape.trans h.kx.tape, hb.output.trans h.kx.output, Nat.le_trans h.kx.size hb.size, fun k hk hx => (hb.block k (Nat.lt_of_lt_of_le hk h.kx.size)).trans (h.kx.block k hk hx)⟩, ?_, h.nd, h.ow⟩
  intro e he
  obtain ⟨o, h1, h2⟩ := h.bl e he
  exact ⟨o, (hb.block _ (h.lt he)).trans h1, h2⟩
/-- a call has laid a block -/
theorem WOK.more {w0 : World} {X : Nat → Prop} {η : Hp} {w w' : World} (h : WOK w0 X η w) (hb : Below w.heap.size w w') {b : Nat} {o : Obj} {φ : HP} (hbb : w.heap.size ≤ b) (ho : w'.heap[b]? = some o) (hφ : φ o) : WOK w0 X ((b, true, φ) :: η) w' := by
  have h' := h.below hb
  refine ⟨h'.kx, ?_, ?_, ?_⟩
  · intro e he
    rcases List.mem_cons.1 he with rfl | he
    · exact ⟨o, ho, hφ⟩
    · exact h'.bl e he
  · simp only [List.map_cons, List.nodup_cons]
    refine ⟨fun hm => ?_, h.nd⟩
    obtain ⟨e, he, h1⟩ := List.mem_map.1 hm
    have := h.lt he
    omega
  · intro e he hw
    rcases List.mem_cons.1 he with rfl | he
    · exact .inl (Nat.le_trans h.kx.size hbb)
    · exact h.ow e he hw
theorem WOK.drew {w0 : World} {X : Nat → Prop} {η : Hp} {w : World} (h : WOK w0 X η w) : WOK w0 X η w.drew := ⟨⟨h.kx.os, h.kx.tape, h.kx.output, h.kx.size, h.kx.block⟩, h.bl, h.nd, h.ow⟩
/-- fewer blocks, in the same order -/
theorem WOK.sub {w0 : World} {X : Nat → Prop} {η η' : Hp} {w : World} (h : WOK w0 X η w) (hs : List.Sublist η' η) : WOK w0 X η' w :=
  ⟨h.kx, fun e he => h.bl e (hs.subset he), (hs.map _).nodup h.nd, fun e he => h.ow e (hs.subset he)⟩
theorem WOK.perm {w0 : World} {X : Nat → Prop} {η η' : Hp} {w : World} (h : WOK w0 X η w) (hp : List.Perm η η') : WOK w0 X η' w :=
  ⟨h.kx, fun e he => h.bl e (hp.mem_iff.2 he), (hp.map _).nodup_iff.1 h.nd, fun e he => h.ow e (hp.mem_iff.2 he)⟩
theorem WOK.obj {w0 : World} {X : Nat → Prop} {η : Hp} {w : World} (h : WOK w0 X η w) {b : Nat} {wr : Bool} {cs : List Value} {t : TypeId} (he : (b, wr, cel cs t) ∈ η) : w.heap[b]? = some (.cells cs.toArray t (0, 0)) := by
  obtain ⟨o, h1, h2⟩ := h.bl _ he
  rw [h1]
  exact congrArg some h2
theorem WOK.cell {w0 : World} {X : Nat → Prop} {η : Hp} {w : World} (h : WOK w0 X η w) {b : Nat} {wr : Bool} {cs : List Value} {t : TypeId} (he : (b, wr, cel cs t) ∈ η) (i : Nat) {v : Value} (hv : cs[i]? = some v) : w.cell? ⟨b, i, none⟩ = some v := by
  rw [cell_of_row w b i _ t _ (h.obj he)]
  simpa using hv
/-! ### types -/
def look {α : Type} (i : Nat) : List (Nat × α) → Option α
  | [] => none
  | p :: r => bif Nat.beq p.1 i then some p.2 else look i r
theorem look_mem {α : Type} {i : Nat} {v : α} : ∀ {l : List (Nat × α)}, look i l = some v → (i, v) ∈ l
  | [], h => by cases h
  | p :: r, h => by
    unfold look at h
    cases hb : Nat.beq p.1 i with
    | true =>
      simp only [hb, cond_true, Option.some.injEq] at h
      have := Nat.eq_of_beq_eq_true hb
      subst this
      subst h
      exact List.mem_cons_self ..
    | false =>
      simp only [hb, cond_false] at h
      exact List.mem_cons_of_mem _ (look_mem h)
/-- what is known of a program's types: how many cells (0: one, by itself), zero values, where fields lie, elements, kinds of numbers -/
structure Tys (P : Program) where
  mixed : P.follows .mixedOrders = true
  tk : List (Nat × Nat)
  htk : ∀ p ∈ tk, (∀ w, (isAgg p.1).run P w = .ok (Nat.blt 0 p.2) w) ∧ (∀ w, (sizeOf p.1).run P w = .ok (bif Nat.beq p.2 0 then 1 else p.2) w)
  zs : List (Nat × Value)
  hzs : ∀ p ∈ zs, ∀ w, (zeroValue p.1).run P w = .ok p.2 w
  fo : List (Nat × List Nat)
  hfo : ∀ p ∈ fo, ∀ f off, p.2[f]? = some off → ∀ a w, (Instr.fieldAt p.1 (.pointer (some a)) f).run P w = .ok (.pointer (some (a.add off))) w
  el : List (Nat × Nat)
  hel : ∀ p ∈ el, P.underlying p.1 = some (.slice p.2)
  ik : List (Nat × IntKind)
  hik : ∀ p ∈ ik, P.underlying p.1 = some (.int p.2)
  mp : List (Nat × Nat × Nat)
  hmp : ∀ p ∈ mp, P.underlying p.1 = some (.map p.2.1 p.2.2)
section
variable {P : Program} {ro : Option Nat} {n N : Nat} {ds : List Deferred} {w0 : World} {X : Nat → Prop}
/-- the code c, from these slots and blocks on -/
def XC (P : Program) (ro : Option Nat) (n N : Nat) (ds : List Deferred) (w0 : World) (X : Nat → Prop) (Q : Exit → Act → World → Prop) (σ : Slots) (η : Hp) (c : Code) : Prop :=
  ∀ a w, SOK N ds σ a → WOK w0 X η w → c.wpIn (wideR ro) n P Q a w
/-- the operations that are left of a region -/
def XO (P : Program) (ro : Option Nat) (n N : Nat) (ds : List Deferred) (w0 : World) (X : Nat → Prop) (Q : Exit → Act → World → Prop) (ops : List Oper) (σ : Slots) (η : Hp) (rest : List Oper) : Prop :=
  ∀ a w, SOK N ds σ a → WOK w0 X η w → wpListIn (wideR ro) n P ops.toArray Q rest a w
/-- a way out -/
def XQ (N : Nat) (ds : List Deferred) (w0 : World) (X : Nat → Prop) (Q : Exit → Act → World → Prop) (e : Exit) (σ : Slots) (η : Hp) : Prop :=
  ∀ a w, SOK N ds σ a → WOK w0 X η w → Q e a w
variable {Q : Exit → Act → World → Prop} {σ : Slots} {η : Hp}
theorem xc_seq {x y : Code} (h : XC P ro n N ds w0 X (Exit.then (y.wpIn (wideR ro) n P Q) Q) σ η x) : XC P ro n N ds w0 X Q σ η (.seq x y) := fun a w ha hw => wpIn_seq (h a w ha hw)
theorem xc_skip (h : XQ N ds w0 X Q .normal σ η) : XC P ro n N ds w0 X Q σ η .skip := fun a w ha hw => wpIn_skip (h a w ha hw)
theorem xc_ret (h : XQ N ds w0 X Q .ret σ η) : XC P ro n N ds w0 X Q σ η .ret := fun a w ha hw => wpIn_ret (h a w ha hw)
theorem xc_cond {c : Operand} {x y : Code} {b : Bool} (hc : ev σ c = some (.bool b)) (ht : b = true → XC P ro n N ds w0 X Q σ η x) (hf : b = false → XC P ro n N ds w0 X Q σ η y) : XC P ro n N ds w0 X Q σ η (.cond c x y) :=
  fun a w ha hw => wpIn_cond_split (ha.ev hc) (fun h => ht h a w ha hw) (fun h => hf h a w ha hw)
theorem xc_condT {c : Operand} {x y : Code} (hc : ev σ c = some (.bool true)) (ht : XC P ro n N ds w0 X Q σ η x) : XC P ro n N ds w0 X Q σ η (.cond c x y) :=
  fun a w ha hw => wpIn_cond_true (ha.ev hc) (ht a w ha hw)
theorem xc_condF {c : Operand} {x y : Code} (hc : ev σ c = some (.bool false)) (hf : XC P ro n N ds w0 X Q σ η y) : XC P ro n N ds w0 X Q σ η (.cond c x y) :=
  fun a w ha hw => wpIn_cond_false (ha.ev hc) (hf a w ha hw)
theorem xc_region {id : Nat} {l : List Oper} (h : XO P ro n N ds w0 X Q l σ η l) : XC P ro n N ds w0 X Q σ η (.region id l.toArray false) := fun a w ha hw => wpIn_region_lit (h a w ha hw)
/-- both ways of a test meet here -/
theorem xc_cut {γ : Type} {x y : Code} (C : γ → Prop) (S : γ → Slots) (H : γ → Hp) (h1 : XC P ro n N ds w0 X (Exit.then (fun a w => ∃ g, C g ∧ SOK N ds (S g) a ∧ WOK w0 X (H g) w) Q) σ η x)
    (h2 : ∀ g, C g → XC P ro n N ds w0 X Q (S g) (H g) y) : XC P ro n N ds w0 X Q σ η (.seq x y) := by
  refine xc_seq fun a w ha hw => wpIn_mono (h1 a w ha hw) ?_
  intro e a' w' hq
  cases e with
  | normal => obtain ⟨g, hg, h3, h4⟩ := hq; exact h2 g hg a' w' h3 h4
  | exit id => exact hq
  | goto l => exact hq
  | ret => exact hq
  | panic c => exact hq
  | outgrown => exact hq
theorem xq_meet {γ : Type} (C : γ → Prop) (S : γ → Slots) (H : γ → Hp) (g' : γ) (hC : C g') (hs : subS (S g') σ) (hh : List.Sublist (H g') η) :
    XQ N ds w0 X (Exit.then (fun a w => ∃ g, C g ∧ SOK N ds (S g) a ∧ WOK w0 X (H g) w) Q) .normal σ η :=
  fun a w ha hw => ⟨g', hC, ha.sub hs, hw.sub hh⟩
theorem xq_then {y : Code} (h : XC P ro n N ds w0 X Q σ η y) : XQ N ds w0 X (Exit.then (y.wpIn (wideR ro) n P Q) Q) .normal σ η := h
theorem xq_thenR {K : Act → World → Prop} (h : XQ N ds w0 X Q .ret σ η) : XQ N ds w0 X (Exit.then K Q) .ret σ η := h
theorem xq_blockN {id : Nat} (h : XQ N ds w0 X Q .normal σ η) : XQ N ds w0 X (Exit.inBlock id Q) .normal σ η := h
theorem xq_blockR {id : Nat} (h : XQ N ds w0 X Q .ret σ η) : XQ N ds w0 X (Exit.inBlock id Q) .ret σ η := h
theorem xq_scopeN (h : XQ N ds w0 X Q .normal σ η) : XQ N ds w0 X (Exit.noGoto Q) .normal σ η := h
theorem xq_scopeR (h : XQ N ds w0 X Q .ret σ η) : XQ N ds w0 X (Exit.noGoto Q) .ret σ η := h
end
end Go.Proofs.YtaijhbliagjeaaaDoor
namespace Go.Proofs.YtaijhbliagjeaaaDoor
open Go.RowKit Go.MapKept
attribute [local go_sem] Oper.semAt_some
set_option linter.unusedVariables false
set_option linter.unusedSimpArgs false
def nthD : Nat → List Oper → Option Tmp
  | _, [] => none
  | 0, o :: _ => o.dst
  | j + 1, _ :: r => nthD j r
def eqB : Bool → Bool → Bool
  | true, w => w
  | false, true => false
  | false, false => true
/-- is an operation wanted? -/
def gS (ops : List Oper) (σ : Slots) : Option (Nat × Bool) → Option Bool
  | none => some true
  | some (j, want) => match nthD j ops with
    | some d => match slot d σ with
      | some (.bool b) => some (eqB b want)
      | some _ => some false
      | none => none
    | none => none
theorem nthD_eq : ∀ (j : Nat) (l : List Oper), nthD j l = (l[j]?).bind (·.dst)
  | _, [] => by simp [nthD]
  | 0, o :: _ => rfl
  | j + 1, _ :: r => by simp [nthD, nthD_eq j r]
def nth {α : Type} : Nat → List α → Option α
  | _, [] => none
  | 0, x :: _ => some x
  | j + 1, _ :: r => nth j r
theorem nth_eq {α : Type} : ∀ (j : Nat) (l : List α), nth j l = l[j]?
  | _, [] => by simp [nth]
  | 0, o :: _ => rfl
  | j + 1, _ :: r => by simp [nth, nth_eq j r]
/-- some cells, from a place on -/
def seg : Nat → Nat → List Value → Option (List Value)
  | 0, 0, _ => some []
  | 0, n + 1, v :: r => match seg 0 n r with
    | some vs => some (v :: vs)
    | none => none
  | o + 1, n, _ :: r => seg o n r
  | _, _, [] => none
theorem seg_get : ∀ (o n : Nat) (cs vs : List Value), seg o n cs = some vs → vs.length = n ∧ ∀ j v, vs[j]? = some v → cs[o + j]? = some v
  | 0, 0, cs, vs, h => by unfold seg at h; cases h; simp
  | 0, n + 1, [], vs, h => by simp [seg] at h
  | 0, n + 1, x :: r, vs, h => by
    unfold seg at h
    split at h
    · rename_i ws hw
      cases h
      have ih := seg_get 0 n r ws hw
      refine ⟨by simp [ih.1], fun j v hj => ?_⟩
      cases j with
      | zero => simpa using hj
      | succ j => have := ih.2 j v (by simpa using hj); simpa using this
    · cases h
  | o + 1, n, [], vs, h => by cases n <;> simp [seg] at h
  | o + 1, n, x :: r, vs, h => by
    have h' : seg o n r = some vs := by cases n <;> simpa [seg] using h
    have ih := seg_get o n r vs h'
    refine ⟨ih.1, fun j v hj => ?_⟩
    have := ih.2 j v hj
    rw [show o + 1 + j = (o + j) + 1 from by omega]
    simpa using this
/-- cells written over, from a place on -/
def setSeg : Nat → List Value → List Value → Option (List Value)
  | 0, [], cs => some cs
  | 0, v :: vs, _ :: r => match setSeg 0 vs r with
    | some r' => some (v :: r')
    | none => none
  | o + 1, vs, x :: r => match setSeg o vs r with
    | some r' => some (x :: r')
    | none => none
  | _, _, [] => none
section
variable {P : Program} {ro : Option Nat} {n N : Nat} {ds : List Deferred} {w0 : World} {X : Nat → Prop} {Q : Exit → Act → World → Prop} {ops : List Oper} {σ : Slots} {η : Hp} {rest : List Oper}
variable {d : Option Tmp} {ty : TypeId} {pos : String} {aft : Array Edge} {g : Option (Nat × Bool)}
theorem wanted_of {a : Act} (ha : SOK N ds σ a) {o : Oper} {b : Bool} (h : gS ops σ o.guard = some b) : Region.wanted o (yielded ops.toArray a.tmps) = b := by
  unfold gS at h
  unfold Region.wanted
  split at h
  · rename_i hg
    cases h
    rw [hg]
  · rename_i j want hg
    rw [hg]
    split at h
    · rename_i dd hd
      split at h
      · rename_i bb hs
        cases h
        have h1 := ha.sl _ _ hs
        rw [nthD_eq] at hd
        have hd' : (ops.toArray[j]?).bind (·.dst) = some dd := by simpa using hd
        simp only [yielded, hd', Option.bind_some, h1]
        cases bb <;> cases want <;> rfl
      · rename_i v hnb hs
        cases h
        have h1 := ha.sl _ _ hs
        rw [nthD_eq] at hd
        have hd' : (ops.toArray[j]?).bind (·.dst) = some dd := by simpa using hd
        simp only [yielded, hd', Option.bind_some, h1]
        cases v <;> first | rfl | exact absurd rfl (hnb _)
      · cases h
    · cases h
theorem xo_nil (h : XQ N ds w0 X Q .normal σ η) : XO P ro n N ds w0 X Q ops σ η [] := fun a w ha hw => h a w ha hw
theorem xo_base {o : Oper} (hd : isDefer o.op = false) (hg : gS ops σ o.guard = some true)
    (h : ∀ a w, SOK N ds σ a → WOK w0 X η w → ∃ nx w' v, (execOp a.eval o).run P w = .ok nx w' ∧ (nx = .value v ∨ (nx = .skip ∧ v = undef)) ∧ wpListIn (wideR ro) n P ops.toArray Q rest (a.put o.dst v) w') :
    XO P ro n N ds w0 X Q ops σ η (o :: rest) := by
  intro a w ha hw
  unfold wpListIn
  rw [if_pos (wanted_of ha hg)]
  refine ⟨fun _ _ => trivial, ?_⟩
  have hd' : ∀ c, o.op ≠ .defer c := fun c e => by rw [e] at hd; simp [isDefer] at hd
  rw [show (wideR ro).round = ro from rfl, Oper.semAt_eq ro _ _ hd']
  obtain ⟨nx, w', v, hr, hn, hk⟩ := h a w ha hw
  rw [hr]
  rcases hn with rfl | ⟨rfl, rfl⟩
  · exact hk
  · exact hk
/-- an operation that isn't wanted -/
theorem xo_not {o : Oper} (hg : gS ops σ o.guard = some false) (hN : dstOK N o.dst = true) (h : XO P ro n N ds w0 X Q ops (putS o.dst undef σ) η rest) : XO P ro n N ds w0 X Q ops σ η (o :: rest) := by
  intro a w ha hw
  unfold wpListIn
  rw [if_neg (by rw [wanted_of ha hg]; simp)]
  exact ⟨fun _ _ => trivial, h _ _ (ha.put hN _) hw⟩
theorem xo_val {o : Oper} (v : Value) (hd : isDefer o.op = false) (hg : gS ops σ o.guard = some true) (hN : dstOK N o.dst = true) (hrun : ∀ a w, SOK N ds σ a → WOK w0 X η w → (execOp a.eval o).run P w = .ok (.value v) w)
    (h : XO P ro n N ds w0 X Q ops (putS o.dst v σ) η rest) : XO P ro n N ds w0 X Q ops σ η (o :: rest) :=
  xo_base hd hg fun a w ha hw => ⟨_, w, v, hrun a w ha hw, .inl rfl, h _ _ (ha.put hN v) hw⟩
/-- what a slot holds, told otherwise -/
theorem xo_as {i : Tmp} {u v : Value} (hb : slot i σ = some u) (e : u = v) (h : XO P ro n N ds w0 X Q ops ((i, v) :: σ) η rest) : XO P ro n N ds w0 X Q ops σ η rest := by
  intro a w ha hw
  refine h a w ⟨ha.sz, fun j z hj => ?_, ha.df⟩ hw
  unfold slot at hj
  cases hq : Nat.beq i j with
  | true =>
    have e' := Nat.eq_of_beq_eq_true hq
    simp only [hq, cond_true, Option.some.injEq] at hj
    subst e'
    subst hj
    exact e ▸ ha.sl _ _ hb
  | false =>
    simp only [hq, cond_false] at hj
    exact ha.sl _ _ hj
theorem xo_mv {x : Operand} {v : Value} (hg : gS ops σ g = some true) (hx : ev σ x = some v) (hN : dstOK N d = true) (h : XO P ro n N ds w0 X Q ops (putS d v σ) η rest) : XO P ro n N ds w0 X Q ops σ η (⟨d, .move x, ty, pos, aft, g⟩ :: rest) :=
  xo_val v rfl hg hN (fun a w ha hw => by simp only [execOp, ha.ev hx]; rfl) h
theorem xo_asg {x : Operand} {v : Value} (hg : gS ops σ g = some true) (hx : ev σ x = some v) (hN : dstOK N d = true) (h : XO P ro n N ds w0 X Q ops (putS d v σ) η rest) : XO P ro n N ds w0 X Q ops σ η (⟨d, .assign x, ty, pos, aft, g⟩ :: rest) :=
  xo_val v rfl hg hN (fun a w ha hw => by simp only [execOp, ha.ev hx]; rfl) h
theorem xo_pickT {c x y : Operand} {v : Value} (hg : gS ops σ g = some true) (hc : ev σ c = some (.bool true)) (hx : ev σ x = some v) (hN : dstOK N d = true) (h : XO P ro n N ds w0 X Q ops (putS d v σ) η rest) : XO P ro n N ds w0 X Q ops σ η (⟨d, .pick c x y, ty, pos, aft, g⟩ :: rest) :=
  xo_val v rfl hg hN (fun a w ha hw => by simp [execOp, ha.ev hc, ha.ev hx, asBool]) h
theorem xo_pickF {c x y : Operand} {v : Value} (hg : gS ops σ g = some true) (hc : ev σ c = some (.bool false)) (hx : ev σ y = some v) (hN : dstOK N d = true) (h : XO P ro n N ds w0 X Q ops (putS d v σ) η rest) : XO P ro n N ds w0 X Q ops σ η (⟨d, .pick c x y, ty, pos, aft, g⟩ :: rest) :=
  xo_val v rfl hg hN (fun a w ha hw => by simp [execOp, ha.ev hc, ha.ev hx, asBool]) h
theorem xo_notOp {x : Operand} {t : TypeId} {b : Bool} (hg : gS ops σ g = some true) (hx : ev σ x = some (.bool b)) (hN : dstOK N d = true) (h : XO P ro n N ds w0 X Q ops (putS d (.bool (!b)) σ) η rest) : XO P ro n N ds w0 X Q ops σ η (⟨d, .unOp .not t x, ty, pos, aft, g⟩ :: rest) :=
  xo_val _ rfl hg hN (fun a w ha hw => by simp only [execOp, ha.ev hx]; rfl) h
section
variable {t t' : TypeId} {x y : Operand} {k : IntKind} {a b : Int}
theorem xo_lss (hg : gS ops σ g = some true) (hx : ev σ x = some (.int k a)) (hy : ev σ y = some (.int k b)) (hN : dstOK N d = true) (h : XO P ro n N ds w0 X Q ops (putS d (.bool (decide (a < b))) σ) η rest) : XO P ro n N ds w0 X Q ops σ η (⟨d, .binOp .lss t x y t', ty, pos, aft, g⟩ :: rest) :=
  xo_val _ rfl hg hN (fun _ w ha hw => by simp [execOp, ha.ev hx, ha.ev hy, eqGuard_lss, binOp_lss]) h
theorem xo_leq (hg : gS ops σ g = some true) (hx : ev σ x = some (.int k a)) (hy : ev σ y = some (.int k b)) (hN : dstOK N d = true) (h : XO P ro n N ds w0 X Q ops (putS d (.bool (decide (a ≤ b))) σ) η rest) : XO P ro n N ds w0 X Q ops σ η (⟨d, .binOp .leq t x y t', ty, pos, aft, g⟩ :: rest) :=
  xo_val _ rfl hg hN (fun _ w ha hw => by simp [execOp, ha.ev hx, ha.ev hy, eqGuard_leq, binOp_leq]) h
theorem xo_gtr (hg : gS ops σ g = some true) (hx : ev σ x = some (.int k a)) (hy : ev σ y = some (.int k b)) (hN : dstOK N d = true) (h : XO P ro n N ds w0 X Q ops (putS d (.bool (decide (b < a))) σ) η rest) : XO P ro n N ds w0 X Q ops σ η (⟨d, .binOp .gtr t x y t', ty, pos, aft, g⟩ :: rest) :=
  xo_val _ rfl hg hN (fun _ w ha hw => by simp [execOp, ha.ev hx, ha.ev hy, eqGuard_gtr, binOp_gtr]) h
theorem xo_geq (hg : gS ops σ g = some true) (hx : ev σ x = some (.int k a)) (hy : ev σ y = some (.int k b)) (hN : dstOK N d = true) (h : XO P ro n N ds w0 X Q ops (putS d (.bool (decide (b ≤ a))) σ) η rest) : XO P ro n N ds w0 X Q ops σ η (⟨d, .binOp .geq t x y t', ty, pos, aft, g⟩ :: rest) :=
  xo_val _ rfl hg hN (fun _ w ha hw => by simp [execOp, ha.ev hx, ha.ev hy, eqGuard_geq, binOp_geq]) h
theorem xo_eql (hg : gS ops σ g = some true) (hx : ev σ x = some (.int k a)) (hy : ev σ y = some (.int k b)) (hN : dstOK N d = true) (h : XO P ro n N ds w0 X Q ops (putS d (.bool (decide (a = b))) σ) η rest) : XO P ro n N ds w0 X Q ops σ η (⟨d, .binOp .eql t x y t', ty, pos, aft, g⟩ :: rest) :=
  xo_val _ rfl hg hN (fun _ w ha hw => by simp [execOp, ha.ev hx, ha.ev hy, eqGuard_at_int, binOp_eql]; rfl) h
theorem xo_neq (hg : gS ops σ g = some true) (hx : ev σ x = some (.int k a)) (hy : ev σ y = some (.int k b)) (hN : dstOK N d = true) (h : XO P ro n N ds w0 X Q ops (putS d (.bool (!decide (a = b))) σ) η rest) : XO P ro n N ds w0 X Q ops σ η (⟨d, .binOp .neq t x y t', ty, pos, aft, g⟩ :: rest) :=
  xo_val _ rfl hg hN (fun _ w ha hw => by simp [execOp, ha.ev hx, ha.ev hy, eqGuard_at_int, binOp_neq]; rfl) h
theorem xo_add (hg : gS ops σ g = some true) (hx : ev σ x = some (.int .i64 a)) (hy : ev σ y = some (.int .i64 b)) (hb : -9223372036854775808 ≤ a + b ∧ a + b ≤ 9223372036854775807) (hN : dstOK N d = true) (h : XO P ro n N ds w0 X Q ops (putS d (.int .i64 (a + b)) σ) η rest) : XO P ro n N ds w0 X Q ops σ η (⟨d, .binOp .add t x y t', ty, pos, aft, g⟩ :: rest) :=
  xo_val _ rfl hg hN (fun _ w ha hw => by simp [execOp, ha.ev hx, ha.ev hy, eqGuard_add, binOp_add, Op.intArith, IntWalk.i64_in _ hb]) h
theorem xo_sub (hg : gS ops σ g = some true) (hx : ev σ x = some (.int .i64 a)) (hy : ev σ y = some (.int .i64 b)) (hb : -9223372036854775808 ≤ a - b ∧ a - b ≤ 9223372036854775807) (hN : dstOK N d = true) (h : XO P ro n N ds w0 X Q ops (putS d (.int .i64 (a - b)) σ) η rest) : XO P ro n N ds w0 X Q ops σ η (⟨d, .binOp .sub t x y t', ty, pos, aft, g⟩ :: rest) :=
  xo_val _ rfl hg hN (fun _ w ha hw => by simp [execOp, ha.ev hx, ha.ev hy, eqGuard_sub, binOp_sub, Op.intArith, IntWalk.i64_in _ hb]) h
end
theorem look_ik (T : Tys P) {t : TypeId} {k : IntKind} (h : look t T.ik = some k) : P.underlying t = some (.int k) := T.hik _ (look_mem h)
theorem xo_conv (T : Tys P) {src dst : TypeId} {x : Operand} {k k' : IntKind} {a : Int} (hg : gS ops σ g = some true) (hs : look src T.ik = some k) (hdt : look dst T.ik = some k') (hx : ev σ x = some (.int k a)) (hb : k'.wrap a = a) (hN : dstOK N d = true) (h : XO P ro n N ds w0 X Q ops (putS d (.int k' a) σ) η rest) :
    XO P ro n N ds w0 X Q ops σ η (⟨d, .convert src dst x, ty, pos, aft, g⟩ :: rest) := by
  refine xo_val _ rfl hg hN (fun _ w ha hw => ?_) h
  have h1 := look_ik T hs
  have h2 := look_ik T hdt
  have hk : P.intKind dst = k' := by simp [Program.intKind, h2]
  have := run_convert_int (P := P) w src dst k a (by simp [h1]) (by rw [hk]; exact h2)
  rw [hk, hb] at this
  simp [execOp, ha.ev hx, this]
theorem xo_ext {x : Operand} {i : Nat} {vs : List Value} {v : Value} (hg : gS ops σ g = some true) (hx : ev σ x = some (.tuple vs.toArray)) (hi : nth i vs = some v) (hN : dstOK N d = true) (h : XO P ro n N ds w0 X Q ops (putS d v σ) η rest) : XO P ro n N ds w0 X Q ops σ η (⟨d, .extract x i, ty, pos, aft, g⟩ :: rest) :=
  xo_val v rfl hg hN (fun a w ha hw => by rw [nth_eq] at hi; simp [execOp, ha.ev hx, Instr.extract, hi]) h
theorem xo_fa (T : Tys P) {s : TypeId} {x : Operand} {f : Nat} {offs : List Nat} {off : Nat} {b o : Nat} (hg : gS ops σ g = some true) (hs : look s T.fo = some offs) (ho : nth f offs = some off) (hx : ev σ x = some (.pointer (some ⟨b, o, none⟩))) (hN : dstOK N d = true)
    (h : XO P ro n N ds w0 X Q ops (putS d (.pointer (some ⟨b, o + off, none⟩)) σ) η rest) : XO P ro n N ds w0 X Q ops σ η (⟨d, .fieldAddr s x f, ty, pos, aft, g⟩ :: rest) :=
  xo_val _ rfl hg hN (fun a w ha hw => by
    have := T.hfo _ (look_mem hs) f off (by rw [← nth_eq]; exact ho) ⟨b, o, none⟩ w
    rw [Addr.add_lit] at this
    simp [execOp, ha.ev hx, this]) h
def szN (k : Nat) : Nat := bif Nat.beq k 0 then 1 else k
/-- cells that came in, and lie there still -/
def RO (w0 : World) (X : Nat → Prop) (p : Addr) (cs : List Value) : Prop := ∀ j v, cs[j]? = some v → w0.cell? (p.add j) = some v ∧ ¬ X (p.add j).block
theorem xo_load0 (T : Tys P) {t : TypeId} {x : Operand} {b i : Nat} {wr : Bool} {cs : List Value} {te : TypeId} {v : Value} (hg : gS ops σ g = some true) (ht : look t T.tk = some 0) (hx : ev σ x = some (.pointer (some ⟨b, i, none⟩))) (hm : (b, wr, cel cs te) ∈ η) (hv : nth i cs = some v) (hN : dstOK N d = true)
    (h : XO P ro n N ds w0 X Q ops (putS d v σ) η rest) : XO P ro n N ds w0 X Q ops σ η (⟨d, .load t x, ty, pos, aft, g⟩ :: rest) :=
  xo_val v rfl hg hN (fun a w ha hw => by
    have h1 := (T.htk _ (look_mem ht)).1 w
    have h2 := hw.cell hm i (by rw [← nth_eq]; exact hv)
    simp [execOp, ha.ev hx, Instr.loadAt, Instr.sureAddr, loadVar, h1, h2]) h
theorem xo_loadN (T : Tys P) {t : TypeId} {x : Operand} {b i k : Nat} {wr : Bool} {cs vs : List Value} {te : TypeId} (hg : gS ops σ g = some true) (ht : look t T.tk = some (k + 1)) (hx : ev σ x = some (.pointer (some ⟨b, i, none⟩))) (hm : (b, wr, cel cs te) ∈ η) (hv : seg i (k + 1) cs = some vs) (hN : dstOK N d = true)
    (h : XO P ro n N ds w0 X Q ops (putS d (.agg vs.toArray) σ) η rest) : XO P ro n N ds w0 X Q ops σ η (⟨d, .load t x, ty, pos, aft, g⟩ :: rest) :=
  xo_val _ rfl hg hN (fun a w ha hw => by
    obtain ⟨h1, h3_⟩ := T.htk _ (look_mem ht)
    have h3 : ∀ w, (sizeOf t).run P w = .ok (k + 1) w := h3_
    have h1 : ∀ w, (isAgg t).run P w = .ok true w := fun w => (h1 w).trans (by simp [Nat.blt])
    clear h3_
    have hs := seg_get _ _ _ _ hv
    have h2 := run_loadCells_list (P := P) (w := w) ⟨b, i, none⟩ vs (fun j v hj => by rw [Addr.add_lit]; exact hw.cell hm (i + j) (hs.2 j v hj))
    rw [hs.1] at h2
    simp [execOp, ha.ev hx, Instr.loadAt, Instr.sureAddr, loadVar, h1, h3, h2]) h
theorem xo_alloc (T : Tys P) {t : TypeId} {z : Value} {cs : List Value} (hg : gS ops σ g = some true) (hz : look t T.zs = some z) (hc : z.cells.toList = cs) (hN : dstOK N d = true)
    (h : ∀ b, XO P ro n N ds w0 X Q ops (putS d (.pointer (some ⟨b, 0, none⟩)) σ) ((b, true, cel cs t) :: η) rest) : XO P ro n N ds w0 X Q ops σ η (⟨d, .alloc t, ty, pos, aft, g⟩ :: rest) :=
  xo_base rfl hg fun a w ha hw => by
    have h1 := T.hzs _ (look_mem hz) w
    refine ⟨_, w.alloc (.cells z.cells t), .pointer (some ⟨w.heap.size, 0, none⟩), ?_, .inl rfl, h _ _ _ (ha.put hN _) (hw.alloc _ _ ?_)⟩
    · simp only [execOp, Instr.alloc, Sem.run_bind, h1, Result.andThen_ok]
      rfl
    · rw [← hc]; simp [cel]
theorem xo_box {t : TypeId} {x : Operand} {v : Value} {cs : List Value} (hg : gS ops σ g = some true) (hx : ev σ x = some v) (hc : v.cells.toList = cs) (hN : dstOK N d = true)
    (h : ∀ b, XO P ro n N ds w0 X Q ops (putS d (.pointer (some ⟨b, 0, none⟩)) σ) ((b, true, cel cs t) :: η) rest) : XO P ro n N ds w0 X Q ops σ η (⟨d, .box t x, ty, pos, aft, g⟩ :: rest) :=
  xo_base rfl hg fun a w ha hw => by
    refine ⟨_, w.alloc (.cells v.cells t), .pointer (some ⟨w.heap.size, 0, none⟩), ?_, .inl rfl, h _ _ _ (ha.put hN _) (hw.alloc _ _ ?_)⟩
    · simp only [execOp, Instr.box, Sem.run_bind, ha.ev hx, Result.andThen_ok]
      rfl
    · rw [← hc]; simp [cel]
theorem run_storeCells (b : Nat) (te : TypeId) : ∀ (vs cs : List Value) (i j : Nat) (cs' : List Value) (w : World), (∀ v ∈ vs, v.oneCell' = true) → setSeg (i + j) vs cs = some cs' → w.heap[b]? = some (.cells cs.toArray te (0, 0)) →
    ∃ w', (storeCells ⟨b, i, none⟩ vs j).run P w = .ok () w' ∧ OneB b w w' ∧ w'.heap[b]? = some (.cells cs'.toArray te (0, 0)) := by
  have put1 : ∀ (k : Nat) (v : Value) (vs cs cs' : List Value), setSeg k (v :: vs) cs = some cs' → k < cs.length ∧ setSeg (k + 1) vs (cs.set k v) = some cs' := by
    intro k
    induction k with
    | zero =>
      intro v vs cs cs' h
      cases cs with
      | nil => simp [setSeg] at h
      | cons x r =>
        simp only [setSeg] at h
        split at h
        · rename_i r' hr
          cases h
          refine ⟨by simp, ?_⟩
          simp only [List.set_cons_zero, setSeg, Nat.zero_add, hr]
        · cases h
    | succ k ih =>
      intro v vs cs cs' h
      cases cs with
      | nil => simp [setSeg] at h
      | cons x r =>
        simp only [setSeg] at h
        split at h
        · rename_i r' hr
          cases h
          have := ih v vs r r' hr
          refine ⟨by simp; exact this.1, ?_⟩
          simp only [List.set_cons_succ, setSeg, this.2]
        · cases h
  have done : ∀ (k : Nat) (cs cs' : List Value), setSeg k [] cs = some cs' → cs' = cs := by
    intro k
    induction k with
    | zero => intro cs cs' h; simp [setSeg] at h; exact h.symm
    | succ k ih =>
      intro cs cs' h
      cases cs with
      | nil => simp [setSeg] at h
      | cons x r =>
        simp only [setSeg] at h
        split at h
        · rename_i r' hr
          cases h
          rw [ih r r' hr]
        · cases h
  intro vs
  induction vs with
  | nil =>
    intro cs i j cs' w _ hs hb
    have := done _ _ _ hs
    subst this
    exact ⟨w, rfl, OneB.refl b w, hb⟩
  | cons v vs ih =>
    intro cs i j cs' w h1 hs hb
    obtain ⟨hlt, hs'⟩ := put1 _ _ _ _ _ hs
    have hcell : w.cell? ⟨b, i + j, none⟩ = some (cs[i + j]'hlt) := by
      rw [cell_of_row w b (i + j) _ te _ hb]
      simp [List.getElem?_eq_getElem hlt]
    have hfz : w.frozen? ⟨b, i + j, none⟩ = false := frozen_of_row w b (i + j) _ te hb
    have hst : (store ⟨b, i + j, none⟩ v .plain).run P w = .ok () (w.setCell ⟨b, i + j, none⟩ v) := by
      rw [run_store P w _ v _ (h1 v (List.mem_cons_self ..)), hcell]
      simp [hfz]
    have hb' : (w.setCell ⟨b, i + j, none⟩ v).heap[b]? = some (.cells (cs.set (i + j) v).toArray te (0, 0)) := by
      rw [heap_setCell_same w b (i + j) _ te v hb]
      simp
    obtain ⟨w', hr, ho, hb2⟩ := ih (cs.set (i + j) v) i (j + 1) cs' _ (fun u hu => h1 u (List.mem_cons_of_mem _ hu)) (by rw [show i + (j + 1) = i + j + 1 from rfl]; exact hs') hb'
    refine ⟨w', ?_, (OneB.setCell w b (i + j) v).trans ho, hb2⟩
    simp only [storeCells, Addr.add_lit, Sem.run_bind, hst, Result.andThen_ok, hr]
theorem xo_store (T : Tys P) {t : TypeId} {p x : Operand} {b i k0 : Nat} {cs cs' vs : List Value} {te : TypeId} {v : Value} {η' : Hp} (hg : gS ops σ g = some true) (ht : look t T.tk = some k0) (hp : ev σ p = some (.pointer (some ⟨b, i, none⟩))) (hx : ev σ x = some v)
    (hm : (b, true, cel cs te) ∈ η) (hvs : v.cells.toList = vs) (hl : Nat.beq vs.length (szN k0) = true) (h1 : vs.all (·.oneCell') = true) (hs : setSeg i vs cs = some cs') (hU : Upd b (cel cs' te) η η') (hN : dstOK N d = true)
    (h : XO P ro n N ds w0 X Q ops (putS d undef σ) η' rest) : XO P ro n N ds w0 X Q ops σ η (⟨d, .store t p x, ty, pos, aft, g⟩ :: rest) :=
  xo_base rfl hg fun a w ha hw => by
    have h2 := (T.htk _ (look_mem ht)).2 w
    obtain ⟨w', hr, ho, hb⟩ := run_storeCells (P := P) b te vs cs i 0 cs' w (by simpa using h1) hs (hw.obj hm)
    refine ⟨_, w', undef, ?_, .inr ⟨rfl, rfl⟩, h _ _ (ha.put hN _) (hw.upd hU ho hb rfl)⟩
    have hlen : v.cells.size = szN k0 := by have := Nat.eq_of_beq_eq_true hl; rw [← this, ← hvs]; simp
    unfold szN at hlen
    simp only [execOp, ha.ev hp, ha.ev hx, Instr.storeAt, Instr.sureAddr, storeVar, Sem.run_bind, Sem.run_pure, Result.andThen_ok, h2, hlen, hvs, hr, ne_eq, not_true_eq_false, ↓reduceIte]
end
end Go.Proofs.YtaijhbliagjeaaaDoor
namespace Go.Proofs.YtaijhbliagjeaaaDoor
open Go.RowKit Go.MapKept
attribute [local go_sem] Oper.semAt_some
set_option linter.unusedVariables false
set_option linter.unusedSimpArgs false
/-- a block that is a map of whole numbers to values -/
def hmap (l : List (Int × Value)) : HP := fun o => ∃ es c, o = .map es c ∧ Ents es c l
/-- a set of whole numbers: a map to true -/
def setV (s : List Int) : List (Int × Value) := s.map fun i => (i, .bool true)
theorem imap_of {w : World} {b : Nat} {l : List (Int × Value)} {o : Obj} (h1 : w.heap[b]? = some o) (h2 : hmap l o) : IMap w b l := by
  obtain ⟨es, c, rfl, hE⟩ := h2
  exact ⟨es, c, h1, hE⟩
section
variable {P : Program} {ro : Option Nat} {n N : Nat} {ds : List Deferred} {w0 : World} {X : Nat → Prop} {Q : Exit → Act → World → Prop} {ops : List Oper} {σ : Slots} {η : Hp} {rest : List Oper}
variable {d : Option Tmp} {ty : TypeId} {pos : String} {aft : Array Edge} {g : Option (Nat × Bool)}
theorem WOK.imap {w : World} (h : WOK w0 X η w) {b : Nat} {wr : Bool} {l : List (Int × Value)} (he : (b, wr, hmap l) ∈ η) : IMap w b l := by
  obtain ⟨o, h1, h2⟩ := h.bl _ he
  exact imap_of h1 h2
/-! ### a call: whatever it does -/
theorem xo_call {fo : Operand} {xs : List Operand} {ats : Array TypeId} {f : FuncId} {vs fs cs : List Value} (hg : gS ops σ g = some true) (hf : ev σ fo = some (.func (.func f) fs.toArray cs.toArray)) (ha_ : evs σ xs = some vs)
    (eg : ∀ args w, (callFunc f args).run P w = .ok (.enter f args) w) (hN : dstOK N d = true)
    (hc : ∀ w, WOK w0 X η w → Calls P f (fs ++ vs ++ cs).toArray w fun e w' => ∃ v η', e = .returned v ∧ WOK w0 X η' w' ∧ XO P ro n N ds w0 X Q ops (putS d v σ) η' rest) :
    XO P ro n N ds w0 X Q ops σ η (⟨d, .call { callee := .value fo, args := xs.toArray, argTypes := ats }, ty, pos, aft, g⟩ :: rest) := by
  intro a w ha hw
  unfold wpListIn
  rw [if_pos (wanted_of ha (o := ⟨d, .call { callee := .value fo, args := xs.toArray, argTypes := ats }, ty, pos, aft, g⟩) hg)]
  refine ⟨fun _ _ => trivial, ?_⟩
  rw [show (wideR ro).round = ro from rfl, Oper.semAt_eq ro _ _ (fun c e => by cases e)]
  have hrun : (execOp a.eval ⟨d, .call { callee := .value fo, args := xs.toArray, argTypes := ats }, ty, pos, aft, g⟩).run P w = .ok (.enter f (fs ++ vs ++ cs).toArray) w := by
    simp [execOp, resolve, Deferred.ofValue, invoke, ha.ev hf, ha.evs ha_, eg]
  rw [hrun]
  refine ⟨(fun h => by cases h), callsIn_wideR ((hc w hw).mono ?_)⟩
  rintro e w' ⟨v, η', rfl, hw', hk⟩
  exact hk _ _ (ha.put hN v) hw'
/-- a call that leaves the world as_ it was below its own blocks -/
theorem xo_callB {fo : Operand} {xs : List Operand} {ats : Array TypeId} {f : FuncId} {vs fs cs : List Value} {v : Value} (hg : gS ops σ g = some true) (hf : ev σ fo = some (.func (.func f) fs.toArray cs.toArray)) (ha_ : evs σ xs = some vs)
    (eg : ∀ args w, (callFunc f args).run P w = .ok (.enter f args) w) (hN : dstOK N d = true)
    (hc : ∀ w, WOK w0 X η w → Calls P f (fs ++ vs ++ cs).toArray w fun e w' => e = .returned v ∧ Below w.heap.size w w') (h : XO P ro n N ds w0 X Q ops (putS d v σ) η rest) :
    XO P ro n N ds w0 X Q ops σ η (⟨d, .call { callee := .value fo, args := xs.toArray, argTypes := ats }, ty, pos, aft, g⟩ :: rest) :=
  xo_call hg hf ha_ eg hN fun w hw => (hc w hw).mono fun e w' ⟨he, hb⟩ => ⟨v, η, he, hw.below hb, h⟩
end
/-! ### a function as_ a whole -/
def argS : Nat → List Value → Slots
  | _, [] => []
  | i, v :: r => (i, v) :: argS (i + 1) r
theorem slot_argS : ∀ (vs : List Value) (i j : Nat) (v : Value), slot j (argS i vs) = some v → i ≤ j ∧ vs[j - i]? = some v
  | [], i, j, v, h => by cases h
  | u :: r, i, j, v, h => by
    unfold argS slot at h
    cases hq : Nat.beq i j with
    | true =>
      have e := Nat.eq_of_beq_eq_true hq
      simp only [hq, cond_true, Option.some.injEq] at h
      subst e
      subst h
      simp
    | false =>
      simp only [hq, cond_false] at h
      obtain ⟨h1, h2⟩ := slot_argS r (i + 1) j v h
      have h3 : i ≤ j := by omega
      refine ⟨h3, ?_⟩
      rw [show j - i = (j - (i + 1)) + 1 from by omega]
      simpa using h2
theorem SOK.args (vs : List Value) (N : Nat) (h : vs.length ≤ N) : SOK N [] (argS 0 vs) { tmps := vs.toArray ++ Array.replicate (N - vs.toArray.size) undef, defers := [] } := by
  refine ⟨by simp; omega, fun i v hv => ?_, rfl⟩
  obtain ⟨_, h2⟩ := slot_argS vs 0 i v hv
  simp only [Nat.sub_zero] at h2
  have hlt : i < vs.length := (List.getElem?_eq_some_iff.1 h2).1
  rw [Array.getElem?_append_left (by simpa using hlt)]
  simpa using h2
theorem x_calls {P : Program} {f : FuncId} {fn : Func} {c : Code} {vs : List Value} {w : World} {R : Ending → World → Prop} {X : Nat → Prop} (hf : P.funcs[f]? = some fn) (hb : fn.body = some c) {N : Nat} (hn : fn.ntmps = N) (hl : Nat.ble vs.length N = true)
    (h : XC P none 0 N [] w X (bodyPost P fn R) (argS 0 vs) [] c) : Calls P f vs.toArray w R := by
  subst hn
  exact (callsIn_wide (n := 0)).1 (callsIn_of_wp hf hb trivial (h _ w (SOK.args vs _ (Nat.le_of_ble_eq_true hl)) (WOK.start X w)) rfl)
section
variable {P : Program} {N : Nat} {w0 : World} {X : Nat → Prop} {fn : Func} {R : Ending → World → Prop} {σ : Slots} {η : Hp}
theorem xq_ret1 {t : Tmp} {v : Value} (hf : fn.results = #[.tmp t]) (hv : slot t σ = some v) (h : ∀ w, WOK w0 X η w → R (.returned v) w) : XQ N [] w0 X (bodyPost P fn R) .ret σ η :=
  fun a w ha hw => ⟨ha.df, v, by rw [results_tmp hf, getD_of (ha.sl _ _ hv)], h w hw⟩
end
end Go.Proofs.YtaijhbliagjeaaaDoor
namespace Go.Proofs.YtaijhbliagjeaaaDoor
end Go.Proofs.YtaijhbliagjeaaaDoor
namespace Go.Proofs.YtaijhbliagjeaaaDoor
open Go.RowKit Go.MapKept
attribute [local go_sem] Oper.semAt_some
set_option linter.unusedVariables false
set_option linter.unusedSimpArgs false
/-- a row that has been appended to: n elements of sz cells -/
def orow (e : TypeId) (sz n cap : Nat) (xs : List Value) : HP := fun o => ∃ cur : Array Value, o = .cells cur e (0, 0) ∧ n ≤ cap ∧ cap ≤ maxLen ∧ cur.size = cap * sz ∧ cur.toList.take (n * sz) = xs
abbrev RowR := Option (Nat × Nat)
def valR (r : RowR) (n : Nat) : Value := match r with
  | none => .slice none 0 0
  | some p => .slice (some ⟨p.1, 0, none⟩) n p.2
def hpR (e : TypeId) (sz : Nat) (r : RowR) (n : Nat) (xs : List Value) : Hp := match r with
  | none => []
  | some p => [(p.1, true, orow e sz n p.2 xs)]
theorem Upd.app {b : Nat} {φ' : HP} {r r' : Hp} (h : Upd b φ' r r') : ∀ l : Hp, Upd b φ' (l ++ r) (l ++ r')
  | [] => h
  | e :: l => .tail (h.app l)
def evp (σ : Slots) : List (Nat × Operand) → Option (List (Nat × Value))
  | [] => some []
  | p :: r => match ev σ p.2, evp σ r with
    | some v, some vs => some ((p.1, v) :: vs)
    | _, _ => none
theorem SOK.evp {N : Nat} {ds : List Deferred} {σ : Slots} {a : Act} (h : SOK N ds σ a) : ∀ {xs : List (Nat × Operand)} {vs : List (Nat × Value)}, evp σ xs = some vs → xs.map (fun p => (p.1, a.eval p.2)) = vs
  | [], vs, e => by cases e; rfl
  | x :: r, vs, e => by
    unfold Go.Proofs.YtaijhbliagjeaaaDoor.evp at e
    split at e
    · rename_i v ws h1 h2
      cases e
      rw [List.map_cons, h.ev h1, h.evp h2]
    · cases e
section
variable {P : Program} {ro : Option Nat} {n N : Nat} {ds : List Deferred} {w0 : World} {X : Nat → Prop} {Q : Exit → Act → World → Prop} {ops : List Oper} {σ : Slots} {η : Hp} {rest : List Oper}
variable {d : Option Tmp} {ty : TypeId} {pos : String} {aft : Array Edge} {g : Option (Nat × Bool)}
theorem WOK.owns {w : World} {e : TypeId} {sz m : Nat} {r : RowR} {xs : List Value} {η0 : Hp} (h : WOK w0 X (hpR e sz r m xs ++ η0) w) (hx : xs.length = m * sz) (h0 : r = none → m = 0) : w.ownsRow 0 e sz (valR r m) m xs := by
  refine ⟨hx, ?_⟩
  cases r with
  | none => exact .inl ⟨rfl, h0 rfl⟩
  | some p =>
    obtain ⟨o, h1, cur, rfl, h2, h3, h4, h5⟩ := h.bl (p.1, true, orow e sz m p.2 xs) (List.mem_append_left _ (List.mem_cons_self ..))
    exact .inr ⟨p.1, p.2, cur, rfl, Nat.zero_le _, h1, h2, h3, h4, h5⟩
end
end Go.Proofs.YtaijhbliagjeaaaDoor
namespace Go.Proofs.YtaijhbliagjeaaaDoor
open Go.RowKit
set_option linter.unusedVariables false
set_option linter.unusedSimpArgs false
end Go.Proofs.YtaijhbliagjeaaaDoor
namespace Go.Proofs.YtaijhbliagjeaaaDoor
open Go.RowKit
set_option linter.unusedVariables false
set_option linter.unusedSimpArgs false
def depOf (o : Oper) : List Nat := (o.after.toList.filter (Region.binds .any)).map (·.on)
def dstv (ops : List Oper) (vs : List Value) (j : Nat) : Slots :=
  match nthD j ops, nth j vs with
  | some d, some v => [(d, v)]
  | _, _ => []
def flatS (ops : List Oper) (vs : List Value) : List Nat → Slots → Slots
  | [], σ => σ
  | j :: L, σ => dstv ops vs j ++ flatS ops vs L σ
theorem slot_app (k : Nat) : ∀ A B : Slots, slot k (A ++ B) = match slot k A with | some u => some u | none => slot k B
  | [], B => rfl
  | p :: A, B => by
    simp only [List.cons_append, slot]
    cases Nat.beq p.1 k with
    | true => rfl
    | false => exact slot_app k A B
theorem slot_dstv {ops : List Oper} {vs : List Value} {j k : Nat} {u : Value} : slot k (dstv ops vs j) = some u ↔ nthD j ops = some k ∧ nth j vs = some u := by
  unfold dstv
  cases h1 : nthD j ops with
  | none => simp [slot]
  | some d =>
    cases h2 : nth j vs with
    | none => simp [slot]
    | some v =>
      simp only [slot]
      cases hb : Nat.beq d k with
      | true =>
        have := Nat.eq_of_beq_eq_true hb
        subst this
        simp
      | false =>
        have : d ≠ k := fun e => by subst e; simp at hb
        simp [this]
theorem flat_a {ops : List Oper} {vs : List Value} {k : Nat} {u : Value} {σ : Slots} : ∀ L : List Nat, slot k (flatS ops vs L σ) = some u → (∃ j ∈ L, nthD j ops = some k ∧ nth j vs = some u) ∨ slot k σ = some u
  | [], h => .inr h
  | j :: L, h => by
    unfold flatS at h
    rw [slot_app] at h
    cases hd : slot k (dstv ops vs j) with
    | some v =>
      rw [hd] at h
      cases h
      exact .inl ⟨j, List.mem_cons_self .., slot_dstv.1 hd⟩
    | none =>
      rw [hd] at h
      rcases flat_a L h with ⟨i, hi, h'⟩ | h'
      · exact .inl ⟨i, List.mem_cons_of_mem _ hi, h'⟩
      · exact .inr h'
theorem flat_b {ops : List Oper} {vs : List Value} {σ : Slots} (hdis : ∀ i j k, nthD i ops = some k → nthD j ops = some k → i = j) {k j : Nat} {u : Value} (h1 : nthD j ops = some k) (h2 : nth j vs = some u) : ∀ L : List Nat, j ∈ L → slot k (flatS ops vs L σ) = some u
  | [], h => by cases h
  | i :: L, h => by
    unfold flatS
    rw [slot_app]
    cases hd : slot k (dstv ops vs i) with
    | some v =>
      obtain ⟨h3, h4⟩ := slot_dstv.1 hd
      have := hdis i j k h3 h1
      subst this
      rw [h2] at h4
      exact h4.symm ▸ rfl
    | none =>
      rcases List.mem_cons.1 h with rfl | h
      · rw [slot_dstv.2 ⟨h1, h2⟩] at hd
        cases hd
      · exact flat_b hdis h1 h2 L h
theorem flat_c {ops : List Oper} {vs : List Value} {σ : Slots} {k : Nat} (hk : ∀ j, nthD j ops ≠ some k) : ∀ L : List Nat, slot k (flatS ops vs L σ) = slot k σ
  | [] => rfl
  | i :: L => by
    unfold flatS
    rw [slot_app]
    cases hd : slot k (dstv ops vs i) with
    | some v => exact absurd (slot_dstv.1 hd).1 (hk i)
    | none => exact flat_c hk L
theorem SOK.le {N : Nat} {ds : List Deferred} {σ σ' : Slots} {a : Act} (h : SOK N ds σ a) (hs : ∀ k u, slot k σ' = some u → slot k σ = some u) : SOK N ds σ' a := ⟨h.sz, fun i v e => h.sl i v (hs i v e), h.df⟩
/-- the post of one operation -/
def OnePost (N : Nat) (ds : List Deferred) (w0 : World) (X : Nat → Prop) (η : Hp) (σ : Slots) : Exit → Act → World → Prop
  | .normal, a, w => SOK N ds σ a ∧ WOK w0 X η w
  | _, _, _ => False
theorem wpIn_swap {F : Fence} {n : Nat} {P : Program} {o : Oper} {a : Act} {w : World} {K : Act → World → Prop} {N : Nat} {ds : List Deferred} {w0 : World} {X : Nat → Prop} {η : Hp} {σ : Slots} {Q : Exit → Act → World → Prop}
    (h : o.wpIn F n P a w K (OnePost N ds w0 X η σ)) : o.wpIn F n P a w K Q := by
  unfold Oper.wpIn at *
  refine ⟨h.1, ?_⟩
  have hh := h.2
  generalize (o.semAt F.round a.eval).run P w = r at *
  cases r with
  | ok x w' =>
    cases x <;> simp only [Oper.uponIn] at hh ⊢ <;>
      first
        | exact hh
        | exact ⟨hh.1, CallsIn.mono hh.2 (fun e w'' he => by
            cases e with
            | returned v => exact he
            | panicked c => exact he.elim
            | outgrown => obtain ⟨_, _, h3⟩ := he; exact h3.elim)⟩
        | exact ⟨hh.1, RoundIn.mono hh.2 (fun e w'' he => by
            cases e with
            | returned v => exact he
            | panicked c => exact he.elim
            | outgrown => obtain ⟨_, _, h3⟩ := he; exact h3.elim)⟩
  | halt x w' => cases x <;> simp only [Oper.uponIn] at hh ⊢ <;> first | exact hh | exact hh.elim
section
variable {P : Program} {ro : Option Nat} {n N : Nat} {ds : List Deferred} {w0 : World} {X : Nat → Prop} {Q : Exit → Act → World → Prop} {σ : Slots} {η : Hp}
/-- each operation, by itself: over what those told it that it waits for -/
def DrawOps (P : Program) (ro : Option Nat) (n N : Nat) (ds : List Deferred) (w0 : World) (X : Nat → Prop) (ops : List Oper) (vs : List Value) (σ : Slots) (η : Hp) : List Oper → List Value → Prop
  | o :: r, v :: vr => (∀ τ, XO P ro n N ds w0 X (OnePost N ds w0 X η (putS o.dst v (flatS ops vs (depOf o) σ ++ τ))) ops (flatS ops vs (depOf o) σ ++ τ) η [o]) ∧ DrawOps P ro n N ds w0 X ops vs σ η r vr
  | _, _ => True
def dstsOf_ (ops : List Oper) : List Tmp := ops.filterMap (·.dst)
def freshB (σ : Slots) : List Tmp → Bool
  | [] => true
  | d :: r => (match slot d σ with | none => true | some _ => false) && freshB σ r
def distB : List Tmp → Bool
  | [] => true
  | d :: r => !(r.any fun x => Nat.beq d x) && distB r
def depsB : Nat → List Oper → Bool
  | _, [] => true
  | i, o :: r => (depOf o).all (fun j => Nat.blt j i) && depsB (i + 1) r
theorem depsB_get : ∀ (l : List Oper) (i k : Nat) (o : Oper), depsB i l = true → l[k]? = some o → ∀ j ∈ depOf o, j < i + k
  | [], i, k, o, _, h => by simp at h
  | x :: r, i, 0, o, h, h1 => by
    simp at h1
    subst h1
    simp only [depsB, Bool.and_eq_true, List.all_eq_true, Nat.blt_eq] at h
    intro j hj
    simpa using h.1 j hj
  | x :: r, i, k + 1, o, h, h1 => by
    simp only [depsB, Bool.and_eq_true] at h
    intro j hj
    have := depsB_get r (i + 1) k o h.2 (by simpa using h1) j hj
    omega
theorem distB_get : ∀ (l : List Oper) (i j k : Nat), distB (dstsOf_ l) = true → nthD i l = some k → nthD j l = some k → i = j
  | [], i, j, k, _, h, _ => by simp [nthD] at h
  | x :: r, 0, 0, k, _, _, _ => rfl
  | x :: r, 0, j + 1, k, hd, h1, h2 => by
    simp only [nthD] at h1 h2
    simp only [dstsOf_, List.filterMap_cons, h1, distB, Bool.and_eq_true, Bool.not_eq_true', List.any_eq_false] at hd
    rw [nthD_eq] at h2
    obtain ⟨o, ho, ho2⟩ := Option.bind_eq_some_iff.1 h2
    have := hd.1 k (List.mem_filterMap.2 ⟨o, List.mem_of_getElem? ho, ho2⟩)
    simp at this
  | x :: r, i + 1, 0, k, hd, h1, h2 => by
    simp only [nthD] at h1 h2
    simp only [dstsOf_, List.filterMap_cons, h2, distB, Bool.and_eq_true, Bool.not_eq_true', List.any_eq_false] at hd
    rw [nthD_eq] at h1
    obtain ⟨o, ho, ho2⟩ := Option.bind_eq_some_iff.1 h1
    have := hd.1 k (List.mem_filterMap.2 ⟨o, List.mem_of_getElem? ho, ho2⟩)
    simp at this
  | x :: r, i + 1, j + 1, k, hd, h1, h2 => by
    simp only [nthD] at h1 h2
    have hd' : distB (dstsOf_ r) = true := by
      simp only [dstsOf_, List.filterMap_cons] at hd ⊢
      cases hx : x.dst with
      | none => rw [hx] at hd; exact hd
      | some d => rw [hx] at hd; simp only [distB, Bool.and_eq_true] at hd; exact hd.2
    rw [distB_get r i j k hd' h1 h2]
theorem freshB_get : ∀ (l : List Tmp) (d : Tmp), freshB σ l = true → d ∈ l → slot d σ = none
  | [], d, _, h => by cases h
  | x :: r, d, h, hm => by
    simp only [freshB, Bool.and_eq_true] at h
    rcases List.mem_cons.1 hm with rfl | hm
    · have := h.1
      split at this
      · assumption
      · cases this
    · exact freshB_get r d h.2 hm
theorem filter_less {l : List Nat} {p q : Nat → Bool} (h : ∀ j ∈ l, q j = true → p j = true) {i : Nat} (hi : i ∈ l) (hp : p i = true) (hq : q i = false) : (l.filter q).length < (l.filter p).length := by
  induction l with
  | nil => cases hi
  | cons x r ih =>
    have hle : ∀ l : List Nat, (∀ j ∈ l, q j = true → p j = true) → (l.filter q).length ≤ (l.filter p).length := by
      intro l
      induction l with
      | nil => intro _; simp
      | cons y r ih =>
        intro h
        have := ih (fun j hj => h j (List.mem_cons_of_mem _ hj))
        have h1 := h y (List.mem_cons_self ..)
        cases hqy : q y <;> cases hpy : p y <;> simp_all
        omega
    rcases List.mem_cons.1 hi with rfl | hi
    · have := hle r (fun j hj => h j (List.mem_cons_of_mem _ hj))
      simp only [List.filter_cons, hp, hq, ↓reduceIte, Bool.false_eq_true, List.length_cons]
      omega
    · have := ih (fun j hj => h j (List.mem_cons_of_mem _ hj)) hi
      have h1 := h x (List.mem_cons_self ..)
      cases hqy : q x <;> cases hpy : p x <;> simp_all
      omega
end
end Go.Proofs.YtaijhbliagjeaaaDoor
namespace Go.Proofs.YtaijhbliagjeaaaDoor
open Go.RowKit
set_option linter.unusedVariables false
set_option linter.unusedSimpArgs false
/-- blocks as_ told, each another one -/
structure BOK (η : Hp) (w : World) : Prop where
  bl : ∀ e ∈ η, ∃ o, w.heap[e.1]? = some o ∧ e.2.2 o
  nd : (η.map (·.1)).Nodup
theorem WOK.bok {w0 : World} {X : Nat → Prop} {η η' : Hp} {w : World} (h : WOK w0 X η w) (hs : List.Sublist η' η) : BOK η' w := ⟨(h.sub hs).bl, (h.sub hs).nd⟩
/-- the blocks that may be written -/
def XW (η : Hp) : Nat → Prop := fun k => ∃ e ∈ η, e.2.1 = true ∧ e.1 = k
theorem BOK.wok {η : Hp} {w : World} (h : BOK η w) : WOK w (XW η) η w := ⟨Kx.refl _ w, h.bl, h.nd, fun e he hw => .inr ⟨e, he, hw, rfl⟩⟩
theorem WOK.wok {w0 : World} {X : Nat → Prop} {η : Hp} {w : World} (h : WOK w0 X η w) : WOK w (XW η) η w := (h.bok (List.Sublist.refl _)).wok
/-- back on the elder base -/
theorem WOK.back {w0 w1 : World} {X : Nat → Prop} {η η' : Hp} {w : World} (h0 : WOK w0 X η w1) (h : WOK w1 (XW η) η' w) : WOK w0 X η' w := by
  have hx : ∀ k, XW η k → w0.heap.size ≤ k ∨ X k := fun k ⟨e, he, hw, hk⟩ => hk ▸ h0.ow e he hw
  refine ⟨⟨h.kx.os.trans h0.kx.os, h.kx.tape.trans h0.kx.tape, h.kx.output.trans h0.kx.output, Nat.le_trans h0.kx.size h.kx.size, fun k hk hnx => ?_⟩, h.bl, h.nd, fun e he hw => ?_⟩
  · refine (h.kx.block k (Nat.lt_of_lt_of_le hk h0.kx.size) (fun q => ?_)).trans (h0.kx.block k hk hnx)
    rcases hx k q with h3 | h3
    · exact absurd hk (Nat.not_lt.2 h3)
    · exact hnx h3
  · rcases h.ow e he hw with h3 | h3
    · exact .inl (Nat.le_trans h0.kx.size h3)
    · exact hx _ h3
/-- below the end of wB all is as_ it was there -/
def SameB (wB w : World) : Prop := ∀ k, k < wB.heap.size → w.heap[k]? = wB.heap[k]?
theorem SameB.of_below {wB w : World} (h : Below wB.heap.size wB w) : SameB wB w := h.block
theorem SameB.kx {wB w w1 : World} {X : Nat → Prop} (h : SameB wB w) (hs : wB.heap.size ≤ w.heap.size) (k : Kx X w w1) (hX : ∀ b, X b → wB.heap.size ≤ b) : SameB wB w1 := fun i hi => (k.block i (Nat.lt_of_lt_of_le hi hs) (fun q => absurd hi (Nat.not_lt.2 (hX i q)))).trans (h i hi)
theorem SameB.cell {wB w : World} (h : SameB wB w) {p : Addr} {v : Value} (hc : wB.cell? p = some v) : w.cell? p = some v := by
  have hb := World.block_lt_of_cell? wB p hc
  unfold World.cell? at hc ⊢
  rw [h _ hb]
  exact hc
theorem RO.same {wB w : World} {X : Nat → Prop} {p : Addr} {cs : List Value} (h : RO wB XNone p cs) (hs : SameB wB w) (hX : ∀ b, X b → wB.heap.size ≤ b) : RO w X p cs := fun j v hj => by
  have h1 := (h j v hj).1
  exact ⟨hs.cell h1, fun q => absurd (World.block_lt_of_cell? wB _ h1) (Nat.not_lt.2 (hX _ q))⟩
/-- what a round keeps for the iterator -/
def KpK (K : Nat → Prop) (n0 : Nat) (W W' : World) : Prop := (∀ k, K k → W'.heap[k]? = W.heap[k]?) ∧ W.heap.size ≤ W'.heap.size ∧ (∀ k o, n0 ≤ k → W.heap[k]? = some o → o.isWalk = true → W'.heap[k]? = some o)
theorem KpK.refl (K : Nat → Prop) (n0 : Nat) (W : World) : KpK K n0 W W := ⟨fun _ _ => rfl, Nat.le_refl _, fun _ _ _ h _ => h⟩
theorem KpK.trans {K : Nat → Prop} {n0 : Nat} {A B C : World} (h : KpK K n0 A B) (k : KpK K n0 B C) : KpK K n0 A C := ⟨fun i hi => (k.1 i hi).trans (h.1 i hi), Nat.le_trans h.2.1 k.2.1, fun i o hi ho hw => k.2.2 i o hi (h.2.2 i o hi ho hw) hw⟩
end Go.Proofs.YtaijhbliagjeaaaDoor
namespace Go.Proofs.YtaijhbliagjeaaaDoor
open Go.RowKit
section
variable {P : Program} {ro : Option Nat} {n N : Nat} {ds : List Deferred} {w0 : World} {X : Nat → Prop} {Q : Exit → Act → World → Prop} {σ : Slots} {η : Hp} {c : Code}
theorem WOK.own {w : World} (h : WOK w0 XNone η w) {b : Nat} {φ : HP} (he : (b, true, φ) ∈ η) : w0.heap.size ≤ b := by
  rcases h.ow _ he rfl with h1 | h1
  · exact h1
  · exact h1.elim
end
theorem Kx.grown {X : Nat → Prop} {w0 w : World} {row : Option Nat} (h : Kx X w0 w) (hr : ∀ k, X k → row = some k) : w0.grownBy w row := ⟨h.os, h.tape, h.output, h.size, fun k hk hne => h.block k hk (fun q => hne (hr k q).symm)⟩
/-- a row of whole numbers that a call has made -/
def RowAt (e : TypeId) (base : Nat) (w : World) (r : RowR) (xs : List Int) : Prop := (r = none → xs = []) ∧ ∀ p, r = some p → base ≤ p.1 ∧ ∃ o, w.heap[p.1]? = some o ∧ orow e 1 xs.length p.2 (xs.map (.int .i64)) o
end Go.Proofs.YtaijhbliagjeaaaDoor
namespace Go.Proofs.YtaijhbliagjeaaaDoor
open Go.RowKit
theorem WOK.row {w0 : World} {X : Nat → Prop} {η : Hp} {w w' : World} (h : WOK w0 X η w) (hb : Below w.heap.size w w') {e : TypeId} {r : RowR} {xs : List Int} (hr : RowAt e w.heap.size w' r xs) : WOK w0 X (hpR e 1 r xs.length (xs.map (.int .i64)) ++ η) w' := by
  cases r with
  | none => exact h.below hb
  | some p =>
    obtain ⟨h1, o, h2, h3⟩ := hr.2 p rfl
    exact h.more hb h1 h2 h3
theorem RowAt.of {w0 : World} {η : Hp} {w : World} {e : TypeId} {r : RowR} {xs : List Int} (h : WOK w0 XNone (hpR e 1 r xs.length (xs.map (.int .i64)) ++ η) w) (h0 : r = none → xs = []) : RowAt e w0.heap.size w r xs := by
  refine ⟨h0, fun p hp => ?_⟩
  subst hp
  exact ⟨h.own (List.Mem.head _), h.bl (p.1, true, orow e 1 xs.length p.2 (xs.map (.int .i64))) (List.Mem.head _)⟩
theorem RowAt.below {e : TypeId} {base : Nat} {w w' : World} {r : RowR} {xs : List Int} (h : RowAt e base w r xs) (hb : Below w.heap.size w w') : RowAt e base w' r xs := by
  refine ⟨h.1, fun p hp => ?_⟩
  obtain ⟨h1, o, h2, h3⟩ := h.2 p hp
  exact ⟨h1, o, (hb.block _ (Array.getElem?_eq_some_iff.1 h2).1).trans h2, h3⟩
theorem RowAt.mono {e : TypeId} {base base' : Nat} {w : World} {r : RowR} {xs : List Int} (h : RowAt e base w r xs) (hb : base' ≤ base) : RowAt e base' w r xs := ⟨h.1, fun p hp => ⟨Nat.le_trans hb (h.2 p hp).1, (h.2 p hp).2⟩⟩
end Go.Proofs.YtaijhbliagjeaaaDoor
namespace Go.Proofs.YtaijhbliagjeaaaDoor
open Go.RowKit
/-- a call that wrote into one block of the call's own, and made others -/
theorem WOK.updK {w0 : World} {X : Nat → Prop} {η η' : Hp} {w w' : World} {b : Nat} {φ' : HP} (h : WOK w0 X η w) (hU : Upd b φ' η η') (k : Kx (fun q => q = b) w w') {o : Obj} (ho : w'.heap[b]? = some o) (hφ : φ' o) : WOK w0 X η' w' := by
  obtain ⟨φ, hb⟩ := hU.has
  have hown := h.ow _ hb rfl
  refine ⟨⟨k.os.trans h.kx.os, k.tape.trans h.kx.tape, k.output.trans h.kx.output, Nat.le_trans h.kx.size k.size, fun i hi hx => ?_⟩, ?_, by rw [hU.keys]; exact h.nd, ?_⟩
  · refine (k.block i (Nat.lt_of_lt_of_le hi h.kx.size) (fun e => ?_)).trans (h.kx.block i hi hx)
    subst e
    rcases hown with h2 | h2
    · exact absurd hi (Nat.not_lt.2 h2)
    · exact hx h2
  · intro e he
    rcases hU.memNe h.nd e he with rfl | ⟨he, hne⟩
    · exact ⟨o, ho, hφ⟩
    · obtain ⟨o', h2, h3⟩ := h.bl e he
      exact ⟨o', (k.block _ (h.lt he) hne).trans h2, h3⟩
  · intro e he hw
    rcases hU.mem e he with rfl | he
    · exact hown
    · exact h.ow e he hw
end Go.Proofs.YtaijhbliagjeaaaDoor
namespace Go.Proofs.YtaijhbliagjeaaaDoor
open Go.RowKit
theorem WOK.more2 {w0 : World} {X : Nat → Prop} {η : Hp} {w w' : World} (h : WOK w0 X η w) (hb : Below w.heap.size w w') {b c : Nat} {o o2 : Obj} {φ φ2 : HP} (hbb : w.heap.size ≤ b) (hcc : w.heap.size ≤ c) (hne : b ≠ c) (ho : w'.heap[b]? = some o) (ho2 : w'.heap[c]? = some o2) (hφ : φ o) (hφ2 : φ2 o2) : WOK w0 X ((c, true, φ2) :: (b, true, φ) :: η) w' := by
  have h1 := h.more hb hbb ho hφ
  refine ⟨h1.kx, ?_, ?_, ?_⟩
  · intro e he
    rcases List.mem_cons.1 he with rfl | he
    · exact ⟨o2, ho2, hφ2⟩
    · exact h1.bl e he
  · simp only [List.map_cons, List.nodup_cons, List.mem_cons, not_or]
    refine ⟨⟨fun e => hne e.symm, fun hm => ?_⟩, ?_⟩
    · obtain ⟨e, he, h2⟩ := List.mem_map.1 hm
      have := h.lt he
      omega
    · have := h1.nd
      simpa only [List.map_cons, List.nodup_cons] using this
  · intro e he hw
    rcases List.mem_cons.1 he with rfl | he
    · exact .inl (Nat.le_trans h.kx.size hcc)
    · exact h1.ow e he hw
end Go.Proofs.YtaijhbliagjeaaaDoor
