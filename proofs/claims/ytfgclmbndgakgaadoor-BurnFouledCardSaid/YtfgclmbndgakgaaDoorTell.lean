/- burn.open: a hood at work, with its readings: by hand, so that the readings are read as they lie. -/
import Derived.Test.YtfgclmbndgakgaaDoorPC2x
import Derived.Test.YtfgclmbndgakgaaDoorHeat
import Derived.Deep.RegionHeld3
namespace Go.Proofs.YtfgclmbndgakgaaDoor
open Go.RowKit Go.Proofs.YtfgclmbndgakgaaDoorW.PrintWords Go.Proofs.YtfgclmbndgakgaaDoorW.PrintMore Go.Proofs.YtfgclmbndgakgaaDoor.PC2
attribute [local go_sem] max2_int min2_int max_two min_two max_three min_three max_four min_four
set_option linter.unusedVariables false
set_option linter.unusedSimpArgs false

def secS (g1 n : Int) : Int := mx 0 (wrap64 (n - g1))
set_option maxHeartbeats 4000000 in
set_option maxRecDepth 100000 in
theorem open_calls (k : Nat) (b0 b1 f0 f1 j0 j1 g0 g1 dr : Int) (A : Option Addr) (c : Nat) (l : List Int) (e0 : Int) (w : World) (hr : Kd.C (Kd.int .i64) w A l.length l) (hc : l.length ≤ c) (h : burn_Check.f k b0 b1 f0 f1 j0 j1 g0 g1 dr l = some e0) :
    Calls Tryd.prog 40 #[.agg #[.int .i64 b0, .int .i64 b1, .int .i64 f0, .int .i64 f1, .int .i64 j0, .int .i64 j1, .int .i64 g0, .int .i64 g1, .int .i64 dr], .slice A l.length c] w
      fun e w' => e = .returned (.tuple #[.agg (ductC b0 b1 f0 f1 j0 j1 g0 g1 dr A l.length c (secS g1 l.length)), .int .i64 e0]) ∧ Below w.heap.size w w' := by
  have H1 := fun W hr => burn_Check.calls k b0 b1 f0 f1 j0 j1 g0 g1 dr A c l e0 W hr hc h
  have HCK := Aside0.mk H1
  have HR := Aside0.mk hr
  clear H1 hr h
  go_enter Tryd.func40, Tryd.ntmps40
  go_wp2_with fail
  obtain ⟨W, hW⟩ : ∃ W, (w.alloc (.cells #[.int .i64 b0, .int .i64 b1, .int .i64 f0, .int .i64 f1, .int .i64 j0, .int .i64 j1, .int .i64 g0, .int .i64 g1, .int .i64 dr] 25)).alloc (.cells #[.int .i64 0, .int .i64 0, .int .i64 0, .int .i64 0, .int .i64 0, .int .i64 0, .int .i64 0, .int .i64 0, .int .i64 0, .slice none 0 0, .int .i64 0] 69) = W := ⟨_, rfl⟩
  rw [hW]
  have hB : Below w.heap.size w W := hW ▸ below_alloc (below_alloc (Below.refl _ w) _) _
  have x2 : W.heap[w.heap.size]? = some (.cells #[.int .i64 b0, .int .i64 b1, .int .i64 f0, .int .i64 f1, .int .i64 j0, .int .i64 j1, .int .i64 g0, .int .i64 g1, .int .i64 dr] 25) := hW ▸ blk_alloc (blk_new _ _) _
  have x4 : W.heap[w.heap.size + 1]? = some (.cells #[.int .i64 0, .int .i64 0, .int .i64 0, .int .i64 0, .int .i64 0, .int .i64 0, .int .i64 0, .int .i64 0, .int .i64 0, .slice none 0 0, .int .i64 0] 69) := hW ▸ blk_new_at _ _ (by simp)
  clear hW
  have hne : w.heap.size + 1 ≠ w.heap.size := by omega
  have hle : w.heap.size ≤ w.heap.size + 1 := by omega
  have hRW := Kd.C_below HR.out hB
  generalize w.heap.size + 1 = B4 at *
  obtain ⟨B2, hB2⟩ : ∃ B, B = w.heap.size := ⟨_, rfl⟩
  rw [← hB2] at x2 hne ⊢
  have HBB := Aside0.mk hB2
  clear hB2
  have c0_ : W.cell? ⟨B2, 0, none⟩ = some (.int .i64 b0) := (blk_cell x2 0).trans rfl
  have e0_ : W.drew.cell? ⟨B2, 0, none⟩ = some (.int .i64 b0) := c0_
  have c1_ : W.cell? ⟨B2, 1, none⟩ = some (.int .i64 b1) := (blk_cell x2 1).trans rfl
  have e1_ : W.drew.cell? ⟨B2, 1, none⟩ = some (.int .i64 b1) := c1_
  have c2_ : W.cell? ⟨B2, 2, none⟩ = some (.int .i64 f0) := (blk_cell x2 2).trans rfl
  have e2_ : W.drew.cell? ⟨B2, 2, none⟩ = some (.int .i64 f0) := c2_
  have c3_ : W.cell? ⟨B2, 3, none⟩ = some (.int .i64 f1) := (blk_cell x2 3).trans rfl
  have e3_ : W.drew.cell? ⟨B2, 3, none⟩ = some (.int .i64 f1) := c3_
  have c4_ : W.cell? ⟨B2, 4, none⟩ = some (.int .i64 j0) := (blk_cell x2 4).trans rfl
  have e4_ : W.drew.cell? ⟨B2, 4, none⟩ = some (.int .i64 j0) := c4_
  have c5_ : W.cell? ⟨B2, 5, none⟩ = some (.int .i64 j1) := (blk_cell x2 5).trans rfl
  have e5_ : W.drew.cell? ⟨B2, 5, none⟩ = some (.int .i64 j1) := c5_
  have c6_ : W.cell? ⟨B2, 6, none⟩ = some (.int .i64 g0) := (blk_cell x2 6).trans rfl
  have e6_ : W.drew.cell? ⟨B2, 6, none⟩ = some (.int .i64 g0) := c6_
  have c7_ : W.cell? ⟨B2, 7, none⟩ = some (.int .i64 g1) := (blk_cell x2 7).trans rfl
  have e7_ : W.drew.cell? ⟨B2, 7, none⟩ = some (.int .i64 g1) := c7_
  have c8_ : W.cell? ⟨B2, 8, none⟩ = some (.int .i64 dr) := (blk_cell x2 8).trans rfl
  have e8_ : W.drew.cell? ⟨B2, 8, none⟩ = some (.int .i64 dr) := c8_
  have X4 := Aside0.mk x4
  have HB := Aside0.mk hB
  have HW := Aside0.mk hRW
  have HNE := Aside0.mk hne
  clear x2 x4 hB hRW hne HR
  obtain ⟨M, hM⟩ : ∃ M, IntKind.i64.wrap ((l.length : Int) - g1) = M := ⟨_, rfl⟩
  have hM' : wrap64 ((l.length : Int) - g1) = M := by unfold wrap64; rw [← IntKind.wrap_i64]; exact hM
  have HM' := Aside0.mk hM'
  clear hM'
  by_cases h0 : 0 < M
  · have hs : secS g1 l.length = M := by unfold secS mx; rw [HM'.out]; exact if_pos h0
    have HS := Aside0.mk hs
    clear hs
    go_region_held3 (fun w' => w'.cell? ⟨B2, 0, none⟩ = some (.int .i64 b0) ∧ w'.cell? ⟨B2, 1, none⟩ = some (.int .i64 b1) ∧ w'.cell? ⟨B2, 2, none⟩ = some (.int .i64 f0) ∧ w'.cell? ⟨B2, 3, none⟩ = some (.int .i64 f1) ∧ w'.cell? ⟨B2, 4, none⟩ = some (.int .i64 j0) ∧ w'.cell? ⟨B2, 5, none⟩ = some (.int .i64 j1) ∧ w'.cell? ⟨B2, 6, none⟩ = some (.int .i64 g0) ∧ w'.cell? ⟨B2, 7, none⟩ = some (.int .i64 g1) ∧ w'.cell? ⟨B2, 8, none⟩ = some (.int .i64 dr))
      (with_reducible first | exact ⟨e0_, e1_, e2_, e3_, e4_, e5_, e6_, e7_, e8_⟩ | exact ⟨pw_cell_below HC.out c0_, pw_cell_below HC.out c1_, pw_cell_below HC.out c2_, pw_cell_below HC.out c3_, pw_cell_below HC.out c4_, pw_cell_below HC.out c5_, pw_cell_below HC.out c6_, pw_cell_below HC.out c7_, pw_cell_below HC.out c8_⟩ | (refine ⟨?_, ?_, ?_, ?_, ?_, ?_, ?_, ?_, ?_⟩ <;> (repeat (refine (World.cell?_setCell_far _ _ _ _ HNE.out).trans ?_)) <;> first | exact pw_cell_below HC.out c0_ | exact pw_cell_below HC.out c1_ | exact pw_cell_below HC.out c2_ | exact pw_cell_below HC.out c3_ | exact pw_cell_below HC.out c4_ | exact pw_cell_below HC.out c5_ | exact pw_cell_below HC.out c6_ | exact pw_cell_below HC.out c7_ | exact pw_cell_below HC.out c8_))
      ((go_at_call 18; refine (HCK.out _ (Kd.C_drew HW.out)).mono ?_; rintro e w2 ⟨rfl, hb⟩; have HC := Aside0.mk (below_step (below_drew (Below.refl _ W)) hb); have y4 := blk_below (blk_drew X4.out) hb; have HB2 := Aside0.mk (below_step (below_drew HB.out) hb); have Y4 := Aside0.mk y4; have d0_ := (blk_cell y4 0).trans rfl; have f0_ := blk_frozen y4 0; have d1_ := (blk_cell y4 1).trans rfl; have f1_ := blk_frozen y4 1; have d2_ := (blk_cell y4 2).trans rfl; have f2_ := blk_frozen y4 2; have d3_ := (blk_cell y4 3).trans rfl; have f3_ := blk_frozen y4 3; have d4_ := (blk_cell y4 4).trans rfl; have f4_ := blk_frozen y4 4; have d5_ := (blk_cell y4 5).trans rfl; have f5_ := blk_frozen y4 5; have d6_ := (blk_cell y4 6).trans rfl; have f6_ := blk_frozen y4 6; have d7_ := (blk_cell y4 7).trans rfl; have f7_ := blk_frozen y4 7; have d8_ := (blk_cell y4 8).trans rfl; have f8_ := blk_frozen y4 8; have d9_ := (blk_cell y4 9).trans rfl; have f9_ := blk_frozen y4 9; have d10_ := (blk_cell y4 10).trans rfl; have f10_ := blk_frozen y4 10; clear y4 hb))
    all_goals
      go_wp2
      refine bodyPost_ret (results_ct rfl _ _ B4 69 #[.int .i64 b0, .int .i64 b1, .int .i64 f0, .int .i64 f1, .int .i64 j0, .int .i64 j1, .int .i64 g0, .int .i64 g1, .int .i64 dr, .slice A l.length c, .int .i64 M] (0, 0) _ rfl (by
        refine blk_put (cs := #[.int .i64 b0, .int .i64 b1, .int .i64 f0, .int .i64 f1, .int .i64 j0, .int .i64 j1, .int .i64 g0, .int .i64 g1, .int .i64 dr, .slice A l.length c, .int .i64 0]) ?_ 10 _ rfl
        refine blk_put (cs := #[.int .i64 b0, .int .i64 b1, .int .i64 f0, .int .i64 f1, .int .i64 j0, .int .i64 j1, .int .i64 g0, .int .i64 g1, .int .i64 dr, .slice none 0 0, .int .i64 0]) ?_ 9 _ rfl
        refine blk_put (cs := #[.int .i64 b0, .int .i64 b1, .int .i64 f0, .int .i64 f1, .int .i64 j0, .int .i64 j1, .int .i64 g0, .int .i64 g1, .int .i64 0, .slice none 0 0, .int .i64 0]) ?_ 8 _ rfl
        refine blk_put (cs := #[.int .i64 b0, .int .i64 b1, .int .i64 f0, .int .i64 f1, .int .i64 j0, .int .i64 j1, .int .i64 g0, .int .i64 0, .int .i64 0, .slice none 0 0, .int .i64 0]) ?_ 7 _ rfl
        refine blk_put (cs := #[.int .i64 b0, .int .i64 b1, .int .i64 f0, .int .i64 f1, .int .i64 j0, .int .i64 j1, .int .i64 0, .int .i64 0, .int .i64 0, .slice none 0 0, .int .i64 0]) ?_ 6 _ rfl
        refine blk_put (cs := #[.int .i64 b0, .int .i64 b1, .int .i64 f0, .int .i64 f1, .int .i64 j0, .int .i64 0, .int .i64 0, .int .i64 0, .int .i64 0, .slice none 0 0, .int .i64 0]) ?_ 5 _ rfl
        refine blk_put (cs := #[.int .i64 b0, .int .i64 b1, .int .i64 f0, .int .i64 f1, .int .i64 0, .int .i64 0, .int .i64 0, .int .i64 0, .int .i64 0, .slice none 0 0, .int .i64 0]) ?_ 4 _ rfl
        refine blk_put (cs := #[.int .i64 b0, .int .i64 b1, .int .i64 f0, .int .i64 0, .int .i64 0, .int .i64 0, .int .i64 0, .int .i64 0, .int .i64 0, .slice none 0 0, .int .i64 0]) ?_ 3 _ rfl
        refine blk_put (cs := #[.int .i64 b0, .int .i64 b1, .int .i64 0, .int .i64 0, .int .i64 0, .int .i64 0, .int .i64 0, .int .i64 0, .int .i64 0, .slice none 0 0, .int .i64 0]) ?_ 2 _ rfl
        refine blk_put (cs := #[.int .i64 b0, .int .i64 0, .int .i64 0, .int .i64 0, .int .i64 0, .int .i64 0, .int .i64 0, .int .i64 0, .int .i64 0, .slice none 0 0, .int .i64 0]) ?_ 1 _ rfl
        refine blk_put (cs := #[.int .i64 0, .int .i64 0, .int .i64 0, .int .i64 0, .int .i64 0, .int .i64 0, .int .i64 0, .int .i64 0, .int .i64 0, .slice none 0 0, .int .i64 0]) ?_ 0 _ rfl
        exact Y4.out) Tryd.underlying69 rfl (by kernel_rfl)) rfl ?_
      exact ⟨by rw [HS.out]; rfl, by
        repeat (refine below_set ?_ hle)
        exact HB2.out⟩
  · have hs : secS g1 l.length = 0 := by unfold secS mx; rw [HM'.out]; exact if_neg h0
    have HS := Aside0.mk hs
    clear hs
    go_region_held3 (fun w' => w'.cell? ⟨B2, 0, none⟩ = some (.int .i64 b0) ∧ w'.cell? ⟨B2, 1, none⟩ = some (.int .i64 b1) ∧ w'.cell? ⟨B2, 2, none⟩ = some (.int .i64 f0) ∧ w'.cell? ⟨B2, 3, none⟩ = some (.int .i64 f1) ∧ w'.cell? ⟨B2, 4, none⟩ = some (.int .i64 j0) ∧ w'.cell? ⟨B2, 5, none⟩ = some (.int .i64 j1) ∧ w'.cell? ⟨B2, 6, none⟩ = some (.int .i64 g0) ∧ w'.cell? ⟨B2, 7, none⟩ = some (.int .i64 g1) ∧ w'.cell? ⟨B2, 8, none⟩ = some (.int .i64 dr))
      (with_reducible first | exact ⟨e0_, e1_, e2_, e3_, e4_, e5_, e6_, e7_, e8_⟩ | exact ⟨pw_cell_below HC.out c0_, pw_cell_below HC.out c1_, pw_cell_below HC.out c2_, pw_cell_below HC.out c3_, pw_cell_below HC.out c4_, pw_cell_below HC.out c5_, pw_cell_below HC.out c6_, pw_cell_below HC.out c7_, pw_cell_below HC.out c8_⟩ | (refine ⟨?_, ?_, ?_, ?_, ?_, ?_, ?_, ?_, ?_⟩ <;> (repeat (refine (World.cell?_setCell_far _ _ _ _ HNE.out).trans ?_)) <;> first | exact pw_cell_below HC.out c0_ | exact pw_cell_below HC.out c1_ | exact pw_cell_below HC.out c2_ | exact pw_cell_below HC.out c3_ | exact pw_cell_below HC.out c4_ | exact pw_cell_below HC.out c5_ | exact pw_cell_below HC.out c6_ | exact pw_cell_below HC.out c7_ | exact pw_cell_below HC.out c8_))
      ((go_at_call 18; refine (HCK.out _ (Kd.C_drew HW.out)).mono ?_; rintro e w2 ⟨rfl, hb⟩; have HC := Aside0.mk (below_step (below_drew (Below.refl _ W)) hb); have y4 := blk_below (blk_drew X4.out) hb; have HB2 := Aside0.mk (below_step (below_drew HB.out) hb); have Y4 := Aside0.mk y4; have d0_ := (blk_cell y4 0).trans rfl; have f0_ := blk_frozen y4 0; have d1_ := (blk_cell y4 1).trans rfl; have f1_ := blk_frozen y4 1; have d2_ := (blk_cell y4 2).trans rfl; have f2_ := blk_frozen y4 2; have d3_ := (blk_cell y4 3).trans rfl; have f3_ := blk_frozen y4 3; have d4_ := (blk_cell y4 4).trans rfl; have f4_ := blk_frozen y4 4; have d5_ := (blk_cell y4 5).trans rfl; have f5_ := blk_frozen y4 5; have d6_ := (blk_cell y4 6).trans rfl; have f6_ := blk_frozen y4 6; have d7_ := (blk_cell y4 7).trans rfl; have f7_ := blk_frozen y4 7; have d8_ := (blk_cell y4 8).trans rfl; have f8_ := blk_frozen y4 8; have d9_ := (blk_cell y4 9).trans rfl; have f9_ := blk_frozen y4 9; have d10_ := (blk_cell y4 10).trans rfl; have f10_ := blk_frozen y4 10; clear y4 hb))
    all_goals
      go_wp2
      refine bodyPost_ret (results_ct rfl _ _ B4 69 #[.int .i64 b0, .int .i64 b1, .int .i64 f0, .int .i64 f1, .int .i64 j0, .int .i64 j1, .int .i64 g0, .int .i64 g1, .int .i64 dr, .slice A l.length c, .int .i64 0] (0, 0) _ rfl (by
        refine blk_put (cs := #[.int .i64 b0, .int .i64 b1, .int .i64 f0, .int .i64 f1, .int .i64 j0, .int .i64 j1, .int .i64 g0, .int .i64 g1, .int .i64 dr, .slice A l.length c, .int .i64 0]) ?_ 10 _ rfl
        refine blk_put (cs := #[.int .i64 b0, .int .i64 b1, .int .i64 f0, .int .i64 f1, .int .i64 j0, .int .i64 j1, .int .i64 g0, .int .i64 g1, .int .i64 dr, .slice none 0 0, .int .i64 0]) ?_ 9 _ rfl
        refine blk_put (cs := #[.int .i64 b0, .int .i64 b1, .int .i64 f0, .int .i64 f1, .int .i64 j0, .int .i64 j1, .int .i64 g0, .int .i64 g1, .int .i64 0, .slice none 0 0, .int .i64 0]) ?_ 8 _ rfl
        refine blk_put (cs := #[.int .i64 b0, .int .i64 b1, .int .i64 f0, .int .i64 f1, .int .i64 j0, .int .i64 j1, .int .i64 g0, .int .i64 0, .int .i64 0, .slice none 0 0, .int .i64 0]) ?_ 7 _ rfl
        refine blk_put (cs := #[.int .i64 b0, .int .i64 b1, .int .i64 f0, .int .i64 f1, .int .i64 j0, .int .i64 j1, .int .i64 0, .int .i64 0, .int .i64 0, .slice none 0 0, .int .i64 0]) ?_ 6 _ rfl
        refine blk_put (cs := #[.int .i64 b0, .int .i64 b1, .int .i64 f0, .int .i64 f1, .int .i64 j0, .int .i64 0, .int .i64 0, .int .i64 0, .int .i64 0, .slice none 0 0, .int .i64 0]) ?_ 5 _ rfl
        refine blk_put (cs := #[.int .i64 b0, .int .i64 b1, .int .i64 f0, .int .i64 f1, .int .i64 0, .int .i64 0, .int .i64 0, .int .i64 0, .int .i64 0, .slice none 0 0, .int .i64 0]) ?_ 4 _ rfl
        refine blk_put (cs := #[.int .i64 b0, .int .i64 b1, .int .i64 f0, .int .i64 0, .int .i64 0, .int .i64 0, .int .i64 0, .int .i64 0, .int .i64 0, .slice none 0 0, .int .i64 0]) ?_ 3 _ rfl
        refine blk_put (cs := #[.int .i64 b0, .int .i64 b1, .int .i64 0, .int .i64 0, .int .i64 0, .int .i64 0, .int .i64 0, .int .i64 0, .int .i64 0, .slice none 0 0, .int .i64 0]) ?_ 2 _ rfl
        refine blk_put (cs := #[.int .i64 b0, .int .i64 0, .int .i64 0, .int .i64 0, .int .i64 0, .int .i64 0, .int .i64 0, .int .i64 0, .int .i64 0, .slice none 0 0, .int .i64 0]) ?_ 1 _ rfl
        refine blk_put (cs := #[.int .i64 0, .int .i64 0, .int .i64 0, .int .i64 0, .int .i64 0, .int .i64 0, .int .i64 0, .int .i64 0, .int .i64 0, .slice none 0 0, .int .i64 0]) ?_ 0 _ rfl
        exact Y4.out) Tryd.underlying69 rfl (by kernel_rfl)) rfl ?_
      exact ⟨by rw [HS.out]; rfl, by
        repeat (refine below_set ?_ hle)
        exact HB2.out⟩
end Go.Proofs.YtfgclmbndgakgaaDoor
/- burn.Heat, burn.Sum: by hand, so that the readings are read as they lie. (Printed by wip/tpl/gen_tell.py.) -/
namespace Go.Proofs.YtfgclmbndgakgaaDoor
open Go.RowKit Go.Proofs.YtfgclmbndgakgaaDoorW.PrintWords Go.Proofs.YtfgclmbndgakgaaDoorW.PrintMore Go.Proofs.YtfgclmbndgakgaaDoor.PC2
set_option linter.unusedVariables false
set_option linter.unusedSimpArgs false

theorem C_ints {w : World} {g : Nat} {t : TypeId} (xs : List Int) (hn : xs.length ≤ 9223372036854775807) (h : w.heap[g]? = some (.cells (xs.map (Value.int .i64)).toArray t)) : Kd.C (Kd.int .i64) w (some ⟨g, 0, none⟩) xs.length xs := by
  refine ⟨rfl, hn, fun _ => ⟨_, rfl, ?_⟩⟩
  intro j p hj
  refine ⟨[.int .i64 p], rfl, rfl, ?_⟩
  intro i u hi
  cases i with
  | zero =>
    simp at hi
    subst hi
    have := blk_cell h j
    rw [add_plain]
    show w.cell? ⟨g, j * 1 + 0, none⟩ = _
    rw [Nat.mul_one, Nat.add_zero, this]
    simp [hj]
  | succ i => simp at hi
instance (b0 b1 f0 f1 j0 j1 g0 g1 dr : Int) : Decidable (HoodOK b0 b1 f0 f1 j0 j1 g0 g1 dr) := by unfold HoodOK; infer_instance
instance (l : List Int) : Decidable (ReadsOK l) := by unfold ReadsOK; infer_instance
/-- what the sum of some seconds is, where all is in its limits -/
def sumG (b0 b1 f0 f1 j0 j1 g0 g1 dr : Int) (l : List Int) (fr to_ : Int) : Option (Int × Int) :=
  if HoodOK b0 b1 f0 f1 j0 j1 g0 g1 dr ∧ ReadsOK l ∧ 0 ≤ fr ∧ fr ≤ to_ ∧ ((fr = to_ ∧ to_ ≤ 1000) ∨ to_ + g1 ≤ l.length) then some (sumS b0 b1 f0 f1 j0 j1 g0 g1 dr l fr to_) else none
theorem sumG_calls (b0 b1 f0 f1 j0 j1 g0 g1 dr : Int) (A : Option Addr) (c : Nat) (l : List Int) (sc fr to_ p q : Int) (h : sumG b0 b1 f0 f1 j0 j1 g0 g1 dr l fr to_ = some (p, q)) (w : World) (hr : Kd.C (Kd.int .i64) w A l.length l) (hG : GlobOK w) :
    Calls Tryd.prog 42 #[.agg #[.int .i64 b0, .int .i64 b1, .int .i64 f0, .int .i64 f1, .int .i64 j0, .int .i64 j1, .int .i64 g0, .int .i64 g1, .int .i64 dr, .slice A l.length c, .int .i64 sc], .int .i64 fr, .int .i64 to_] w
      fun e w' => e = .returned (.agg #[.int .i64 p, .int .i64 q]) ∧ Below w.heap.size w w' := by
  unfold sumG at h
  split at h
  · rename_i hc
    obtain ⟨h1, h2, h3, h4, h5⟩ := hc
    have := sum_calls b0 b1 f0 f1 j0 j1 g0 g1 dr h1 A c l h2 sc fr to_ w hr h3 h4 h5 hG
    rw [Option.some.inj h] at this
    exact this
  · simp at h
def inRange (lo hi : Int) (l : List Int) : Bool := !l.any fun x => decide (x < lo) || decide (hi < x)

def burn_Heat.f (k : Nat) (b0 b1 f0 f1 j0 j1 g0 g1 dr : Int) (l : List Int) (sec : Int) : Option (Int × Int × Int) :=
  (burn_Check.f k b0 b1 f0 f1 j0 j1 g0 g1 dr l).bind fun e => if e = 0 then (if inRange 0 (wrap64 (secS g1 l.length - 1)) [sec] = true then (sumG b0 b1 f0 f1 j0 j1 g0 g1 dr l sec (wrap64 (sec + 1))).map (fun p => (p.1, p.2, 0)) else some (0, 0, 2)) else some (0, 0, e)
theorem burn_Heat.mono : ∀ b0 b1 f0 f1 j0 j1 g0 g1 dr l sec k, LeO (burn_Heat.f k b0 b1 f0 f1 j0 j1 g0 g1 dr l sec) (burn_Heat.f (k + 1) b0 b1 f0 f1 j0 j1 g0 g1 dr l sec) := by
  intro b0 b1 f0 f1 j0 j1 g0 g1 dr l sec k
  unfold burn_Heat.f
  exact LeO.bind (burn_Check.mono _ _ _ _ _ _ _ _ _ _ _) (fun _ => LeO.refl _)
set_option maxHeartbeats 4000000 in
set_option maxRecDepth 100000 in
theorem burn_Heat.calls (k : Nat) (b0 b1 f0 f1 j0 j1 g0 g1 dr : Int) (A : Option Addr) (c : Nat) (l : List Int) (sec : Int) (r1 r2 r3 : Int) (w : World) (hr : Kd.C (Kd.int .i64) w A l.length l) (hc : l.length ≤ c) (hG : GlobOK w) (h : burn_Heat.f k b0 b1 f0 f1 j0 j1 g0 g1 dr l sec = some (r1, r2, r3)) :
    Calls Tryd.prog 12 #[.agg #[.int .i64 b0, .int .i64 b1, .int .i64 f0, .int .i64 f1, .int .i64 j0, .int .i64 j1, .int .i64 g0, .int .i64 g1, .int .i64 dr], .slice A l.length c, .int .i64 sec] w fun e w' => e = .returned (.tuple #[.agg #[.int .i64 r1, .int .i64 r2], .int .i64 r3]) ∧ Below w.heap.size w w' := by
  unfold burn_Heat.f at h
  obtain ⟨e0, hck, h⟩ := Option.bind_eq_some_iff.1 h
  have H1 := fun W hr => open_calls k b0 b1 f0 f1 j0 j1 g0 g1 dr A c l e0 W hr hc hck
  have HO := Aside0.mk H1
  have HR := Aside0.mk hr
  have HGL := Aside0.mk hG
  unfold ductC at HO
  clear H1 hr hG hck
  go_enter Tryd.func12, Tryd.ntmps12
  go_wp2_with fail
  obtain ⟨W, hW⟩ : ∃ W, (w.alloc (.cells #[.int .i64 b0, .int .i64 b1, .int .i64 f0, .int .i64 f1, .int .i64 j0, .int .i64 j1, .int .i64 g0, .int .i64 g1, .int .i64 dr] 25)).alloc (.cells #[.int .i64 0, .int .i64 0] 23) = W := ⟨_, rfl⟩
  rw [hW]
  have hbW : Below w.heap.size w W := hW ▸ below_alloc (below_alloc (Below.refl _ w) _) _
  have b6 : W.heap[w.heap.size + 1]? = some (.cells #[.int .i64 0, .int .i64 0] 23) := hW ▸ blk_new_at _ _ (by simp)
  clear hW
  have hle : w.heap.size ≤ w.heap.size + 1 := by omega
  generalize w.heap.size + 1 = G6 at *
  refine (HO.out W (Kd.C_below HR.out hbW)).mono ?_
  rintro e w1 ⟨rfl, hb1⟩
  have HB1 := Aside0.mk (below_step hbW hb1)
  replace b6 := blk_below b6 hb1
  clear hb1 hbW HO
  by_cases he : e0 = 0
  · rw [if_pos he] at h
    subst he
    have hlt := blk_lt b6
    have X6 := Aside0.mk b6
    clear b6
    go_wp2_with fail
    obtain ⟨W2, hW2⟩ : ∃ W2, (w1.alloc (.cells #[.int .i64 b0, .int .i64 b1, .int .i64 f0, .int .i64 f1, .int .i64 j0, .int .i64 j1, .int .i64 g0, .int .i64 g1, .int .i64 dr, .slice A l.length c, .int .i64 (secS g1 l.length)] 69)).alloc (.cells #[.int .i64 sec] 3) = W2 := ⟨_, rfl⟩
    rw [hW2]
    have hB2 : Below w.heap.size w W2 := hW2 ▸ below_alloc (below_alloc HB1.out _) _
    have y6 : W2.heap[G6]? = some (.cells #[.int .i64 0, .int .i64 0] 23) := hW2 ▸ blk_alloc (blk_alloc X6.out _) _
    have y8 : W2.heap[w1.heap.size]? = some (.cells #[.int .i64 b0, .int .i64 b1, .int .i64 f0, .int .i64 f1, .int .i64 j0, .int .i64 j1, .int .i64 g0, .int .i64 g1, .int .i64 dr, .slice A l.length c, .int .i64 (secS g1 l.length)] 69) := hW2 ▸ blk_alloc (blk_new _ _) _
    have y9 : W2.heap[w1.heap.size + 1]? = some (.cells #[.int .i64 sec] 3) := hW2 ▸ blk_new_at _ _ (by simp)
    clear hW2 X6
    generalize w1.heap.size + 1 = G9 at *
    generalize w1.heap.size = G8 at *
    refine (burn_in.calls 0 (wrap64 (secS g1 l.length - 1)) (some ⟨G9, 0, none⟩) 1 [sec] (inRange 0 (wrap64 (secS g1 l.length - 1)) [sec]) W2 (C_ints [sec] (by simp) y9) (by simp) rfl).mono ?_
    rintro e w3 ⟨rfl, hb3⟩
    have HB3 := Aside0.mk (below_step hB2 hb3)
    replace y6 := blk_below y6 hb3
    replace y8 := blk_below y8 hb3
    clear y9 hB2 hb3 HB1
    have c0_ := (blk_cell y8 0).trans rfl
    have c1_ := (blk_cell y8 1).trans rfl
    have c2_ := (blk_cell y8 2).trans rfl
    have c3_ := (blk_cell y8 3).trans rfl
    have c4_ := (blk_cell y8 4).trans rfl
    have c5_ := (blk_cell y8 5).trans rfl
    have c6_ := (blk_cell y8 6).trans rfl
    have c7_ := (blk_cell y8 7).trans rfl
    have c8_ := (blk_cell y8 8).trans rfl
    have c9_ := (blk_cell y8 9).trans rfl
    have c10_ := (blk_cell y8 10).trans rfl
    have f3_ := blk_frozen y6 0
    have f4_ := blk_frozen y6 1
    have d3_ := (blk_cell y6 0).trans rfl
    have d4_ := (blk_cell y6 1).trans rfl
    have Y6 := Aside0.mk y6
    clear y6 y8
    generalize hT : inRange 0 (wrap64 (secS g1 l.length - 1)) [sec] = t at *
    clear hT
    cases t
    · simp only [Bool.false_eq_true, ↓reduceIte, Option.some.injEq, Prod.mk.injEq] at h
      obtain ⟨rfl, rfl, rfl⟩ := h
      clear HR HGL
      go_wp2
      refine bodyPost_ret (results_ct rfl _ _ G6 23 #[.int .i64 0, .int .i64 0] (0, 0) _ rfl (by
        refine blk_put (cs := #[.int .i64 0, .int .i64 0]) ?_ 1 _ rfl
        refine blk_put (cs := #[.int .i64 0, .int .i64 0]) ?_ 0 _ rfl
        exact Y6.out) Tryd.underlying23 rfl (by kernel_rfl)) rfl ?_
      exact ⟨rfl, below_set (below_set HB3.out hle) hle⟩
    · rw [if_pos rfl] at h
      obtain ⟨⟨p, q⟩, hsm, h⟩ := Option.map_eq_some_iff.1 h
      simp only [Prod.mk.injEq] at h
      obtain ⟨rfl, rfl, rfl⟩ := h
      have HSM := Aside0.mk hsm
      clear hsm
      go_wp2_with (go_at_call 42; refine (sumG_calls b0 b1 f0 f1 j0 j1 g0 g1 dr A c l (secS g1 l.length) sec (wrap64 (sec + 1)) p q HSM.out _ (Kd.C_below HR.out HB3.out) (HGL.out.below HB3.out)).mono ?_; rintro e w4 ⟨rfl, hb4⟩; have z6 := blk_below Y6.out hb4; have HB4 := Aside0.mk (below_step HB3.out hb4); have g0_ := blk_frozen z6 0; have g1_ := blk_frozen z6 1; have i0_ := (blk_cell z6 0).trans rfl; have i1_ := (blk_cell z6 1).trans rfl; have Z6 := Aside0.mk z6; clear z6 hb4)
      refine bodyPost_ret (results_ct rfl _ _ G6 23 #[.int .i64 p, .int .i64 q] (0, 0) _ rfl (by
        refine blk_put (cs := #[.int .i64 p, .int .i64 0]) ?_ 1 _ rfl
        refine blk_put (cs := #[.int .i64 0, .int .i64 0]) ?_ 0 _ rfl
        exact Z6.out) Tryd.underlying23 rfl (by kernel_rfl)) rfl ?_
      exact ⟨rfl, below_set (below_set HB4.out hle) hle⟩
  · rw [if_neg he] at h
    simp only [Option.some.injEq, Prod.mk.injEq] at h
    obtain ⟨rfl, rfl, rfl⟩ := h
    have he1 : (e0 != 0) = true := bne_iff_ne.2 he
    clear he
    have BK := Aside0.mk b6
    have hlt := blk_lt b6
    have f3_ := blk_frozen b6 0
    have f4_ := blk_frozen b6 1
    have d3_ := (blk_cell b6 0).trans rfl
    have d4_ := (blk_cell b6 1).trans rfl
    clear b6
    go_wp2
    refine bodyPost_ret (results_ct rfl _ _ G6 23 #[.int .i64 0, .int .i64 0] (0, 0) _ rfl (by
      refine blk_alloc ?_ _
      refine blk_put (cs := #[.int .i64 0, .int .i64 0]) ?_ 1 _ rfl
      refine blk_put (cs := #[.int .i64 0, .int .i64 0]) ?_ 0 _ rfl
      exact BK.out) Tryd.underlying23 rfl (by kernel_rfl)) rfl ?_
    exact ⟨rfl, below_alloc (below_set (below_set HB1.out hle) hle) _⟩

def burn_Sum.f (k : Nat) (b0 b1 f0 f1 j0 j1 g0 g1 dr : Int) (l : List Int) (fr to_ : Int) : Option (Int × Int × Int) :=
  (burn_Check.f k b0 b1 f0 f1 j0 j1 g0 g1 dr l).bind fun e => if e = 0 then (if inRange 0 (secS g1 l.length) [fr, to_] = true ∧ fr ≤ to_ then (sumG b0 b1 f0 f1 j0 j1 g0 g1 dr l fr to_).map (fun p => (p.1, p.2, 0)) else some (0, 0, 2)) else some (0, 0, e)
theorem burn_Sum.mono : ∀ b0 b1 f0 f1 j0 j1 g0 g1 dr l fr to_ k, LeO (burn_Sum.f k b0 b1 f0 f1 j0 j1 g0 g1 dr l fr to_) (burn_Sum.f (k + 1) b0 b1 f0 f1 j0 j1 g0 g1 dr l fr to_) := by
  intro b0 b1 f0 f1 j0 j1 g0 g1 dr l fr to_ k
  unfold burn_Sum.f
  exact LeO.bind (burn_Check.mono _ _ _ _ _ _ _ _ _ _ _) (fun _ => LeO.refl _)
set_option maxHeartbeats 4000000 in
set_option maxRecDepth 100000 in
theorem burn_Sum.calls (k : Nat) (b0 b1 f0 f1 j0 j1 g0 g1 dr : Int) (A : Option Addr) (c : Nat) (l : List Int) (fr to_ : Int) (r1 r2 r3 : Int) (w : World) (hr : Kd.C (Kd.int .i64) w A l.length l) (hc : l.length ≤ c) (hG : GlobOK w) (h : burn_Sum.f k b0 b1 f0 f1 j0 j1 g0 g1 dr l fr to_ = some (r1, r2, r3)) :
    Calls Tryd.prog 14 #[.agg #[.int .i64 b0, .int .i64 b1, .int .i64 f0, .int .i64 f1, .int .i64 j0, .int .i64 j1, .int .i64 g0, .int .i64 g1, .int .i64 dr], .slice A l.length c, .int .i64 fr, .int .i64 to_] w fun e w' => e = .returned (.tuple #[.agg #[.int .i64 r1, .int .i64 r2], .int .i64 r3]) ∧ Below w.heap.size w w' := by
  unfold burn_Sum.f at h
  obtain ⟨e0, hck, h⟩ := Option.bind_eq_some_iff.1 h
  have H1 := fun W hr => open_calls k b0 b1 f0 f1 j0 j1 g0 g1 dr A c l e0 W hr hc hck
  have HO := Aside0.mk H1
  have HR := Aside0.mk hr
  have HGL := Aside0.mk hG
  unfold ductC at HO
  clear H1 hr hG hck
  go_enter Tryd.func14, Tryd.ntmps14
  go_wp2_with fail
  obtain ⟨W, hW⟩ : ∃ W, (w.alloc (.cells #[.int .i64 b0, .int .i64 b1, .int .i64 f0, .int .i64 f1, .int .i64 j0, .int .i64 j1, .int .i64 g0, .int .i64 g1, .int .i64 dr] 25)).alloc (.cells #[.int .i64 0, .int .i64 0] 23) = W := ⟨_, rfl⟩
  rw [hW]
  have hbW : Below w.heap.size w W := hW ▸ below_alloc (below_alloc (Below.refl _ w) _) _
  have b6 : W.heap[w.heap.size + 1]? = some (.cells #[.int .i64 0, .int .i64 0] 23) := hW ▸ blk_new_at _ _ (by simp)
  clear hW
  have hle : w.heap.size ≤ w.heap.size + 1 := by omega
  generalize w.heap.size + 1 = G6 at *
  refine (HO.out W (Kd.C_below HR.out hbW)).mono ?_
  rintro e w1 ⟨rfl, hb1⟩
  have HB1 := Aside0.mk (below_step hbW hb1)
  replace b6 := blk_below b6 hb1
  clear hb1 hbW HO
  by_cases he : e0 = 0
  · rw [if_pos he] at h
    subst he
    have hlt := blk_lt b6
    have X6 := Aside0.mk b6
    clear b6
    go_wp2_with fail
    obtain ⟨W2, hW2⟩ : ∃ W2, (w1.alloc (.cells #[.int .i64 b0, .int .i64 b1, .int .i64 f0, .int .i64 f1, .int .i64 j0, .int .i64 j1, .int .i64 g0, .int .i64 g1, .int .i64 dr, .slice A l.length c, .int .i64 (secS g1 l.length)] 69)).alloc (.cells #[.int .i64 fr, .int .i64 to_] 3) = W2 := ⟨_, rfl⟩
    rw [hW2]
    have hB2 : Below w.heap.size w W2 := hW2 ▸ below_alloc (below_alloc HB1.out _) _
    have y6 : W2.heap[G6]? = some (.cells #[.int .i64 0, .int .i64 0] 23) := hW2 ▸ blk_alloc (blk_alloc X6.out _) _
    have y8 : W2.heap[w1.heap.size]? = some (.cells #[.int .i64 b0, .int .i64 b1, .int .i64 f0, .int .i64 f1, .int .i64 j0, .int .i64 j1, .int .i64 g0, .int .i64 g1, .int .i64 dr, .slice A l.length c, .int .i64 (secS g1 l.length)] 69) := hW2 ▸ blk_alloc (blk_new _ _) _
    have y9 : W2.heap[w1.heap.size + 1]? = some (.cells #[.int .i64 fr, .int .i64 to_] 3) := hW2 ▸ blk_new_at _ _ (by simp)
    clear hW2 X6
    generalize w1.heap.size + 1 = G9 at *
    generalize w1.heap.size = G8 at *
    refine (burn_in.calls 0 (secS g1 l.length) (some ⟨G9, 0, none⟩) 2 [fr, to_] (inRange 0 (secS g1 l.length) [fr, to_]) W2 (C_ints [fr, to_] (by simp) y9) (by simp) rfl).mono ?_
    rintro e w3 ⟨rfl, hb3⟩
    have HB3 := Aside0.mk (below_step hB2 hb3)
    replace y6 := blk_below y6 hb3
    replace y8 := blk_below y8 hb3
    clear y9 hB2 hb3 HB1
    have c0_ := (blk_cell y8 0).trans rfl
    have c1_ := (blk_cell y8 1).trans rfl
    have c2_ := (blk_cell y8 2).trans rfl
    have c3_ := (blk_cell y8 3).trans rfl
    have c4_ := (blk_cell y8 4).trans rfl
    have c5_ := (blk_cell y8 5).trans rfl
    have c6_ := (blk_cell y8 6).trans rfl
    have c7_ := (blk_cell y8 7).trans rfl
    have c8_ := (blk_cell y8 8).trans rfl
    have c9_ := (blk_cell y8 9).trans rfl
    have c10_ := (blk_cell y8 10).trans rfl
    have f3_ := blk_frozen y6 0
    have f4_ := blk_frozen y6 1
    have d3_ := (blk_cell y6 0).trans rfl
    have d4_ := (blk_cell y6 1).trans rfl
    have Y6 := Aside0.mk y6
    clear y6 y8
    generalize hT : inRange 0 (secS g1 l.length) [fr, to_] = t at *
    clear hT
    cases t
    · simp only [Bool.false_eq_true, false_and, ↓reduceIte, Option.some.injEq, Prod.mk.injEq] at h
      obtain ⟨rfl, rfl, rfl⟩ := h
      clear HR HGL
      go_wp2
      refine bodyPost_ret (results_ct rfl _ _ G6 23 #[.int .i64 0, .int .i64 0] (0, 0) _ rfl (by
        refine blk_put (cs := #[.int .i64 0, .int .i64 0]) ?_ 1 _ rfl
        refine blk_put (cs := #[.int .i64 0, .int .i64 0]) ?_ 0 _ rfl
        exact Y6.out) Tryd.underlying23 rfl (by kernel_rfl)) rfl ?_
      exact ⟨rfl, below_set (below_set HB3.out hle) hle⟩
    · by_cases hgt : to_ < fr
      · rw [if_neg (fun hh => by have := hh.2; omega)] at h
        simp only [Option.some.injEq, Prod.mk.injEq] at h
        obtain ⟨rfl, rfl, rfl⟩ := h
        go_wp2
        refine bodyPost_ret (results_ct rfl _ _ G6 23 #[.int .i64 0, .int .i64 0] (0, 0) _ rfl (by
          refine blk_put (cs := #[.int .i64 0, .int .i64 0]) ?_ 1 _ rfl
          refine blk_put (cs := #[.int .i64 0, .int .i64 0]) ?_ 0 _ rfl
          exact Y6.out) Tryd.underlying23 rfl (by kernel_rfl)) rfl ?_
        exact ⟨rfl, below_set (below_set HB3.out hle) hle⟩
      · rw [if_pos ⟨rfl, by omega⟩] at h
        obtain ⟨⟨p, q⟩, hsm, h⟩ := Option.map_eq_some_iff.1 h
        simp only [Prod.mk.injEq] at h
        obtain ⟨rfl, rfl, rfl⟩ := h
        have HSM := Aside0.mk hsm
        clear hsm
        go_wp2_with (go_at_call 42; refine (sumG_calls b0 b1 f0 f1 j0 j1 g0 g1 dr A c l (secS g1 l.length) fr to_ p q HSM.out _ (Kd.C_below HR.out HB3.out) (HGL.out.below HB3.out)).mono ?_; rintro e w4 ⟨rfl, hb4⟩; have z6 := blk_below Y6.out hb4; have HB4 := Aside0.mk (below_step HB3.out hb4); have g0_ := blk_frozen z6 0; have g1_ := blk_frozen z6 1; have i0_ := (blk_cell z6 0).trans rfl; have i1_ := (blk_cell z6 1).trans rfl; have Z6 := Aside0.mk z6; clear z6 hb4)
        refine bodyPost_ret (results_ct rfl _ _ G6 23 #[.int .i64 p, .int .i64 q] (0, 0) _ rfl (by
          refine blk_put (cs := #[.int .i64 p, .int .i64 0]) ?_ 1 _ rfl
          refine blk_put (cs := #[.int .i64 0, .int .i64 0]) ?_ 0 _ rfl
          exact Z6.out) Tryd.underlying23 rfl (by kernel_rfl)) rfl ?_
        exact ⟨rfl, below_set (below_set HB4.out hle) hle⟩
  · rw [if_neg he] at h
    simp only [Option.some.injEq, Prod.mk.injEq] at h
    obtain ⟨rfl, rfl, rfl⟩ := h
    have he1 : (e0 != 0) = true := bne_iff_ne.2 he
    clear he
    have BK := Aside0.mk b6
    have hlt := blk_lt b6
    have f3_ := blk_frozen b6 0
    have f4_ := blk_frozen b6 1
    have d3_ := (blk_cell b6 0).trans rfl
    have d4_ := (blk_cell b6 1).trans rfl
    clear b6
    go_wp2
    refine bodyPost_ret (results_ct rfl _ _ G6 23 #[.int .i64 0, .int .i64 0] (0, 0) _ rfl (by
      refine blk_alloc ?_ _
      refine blk_put (cs := #[.int .i64 0, .int .i64 0]) ?_ 1 _ rfl
      refine blk_put (cs := #[.int .i64 0, .int .i64 0]) ?_ 0 _ rfl
      exact BK.out) Tryd.underlying23 rfl (by kernel_rfl)) rfl ?_
    exact ⟨rfl, below_alloc (below_set (below_set HB1.out hle) hle) _⟩
end Go.Proofs.YtfgclmbndgakgaaDoor
