/- words that the kit's print lays for a seat, as far as they are used / Printed for this claim by this session's own driver over the kit's printer: the machine side of plain functions: what each returns, and that it leaves memory below its own blocks alone. / Printed for this claim by this session's own driver over the kit's printer: the machine side of plain functions: what each returns, and that it leaves memory below its own blocks alone. / Printed for this claim by this session's own driver over the kit's printer: the machine side of plain functions: what each returns, and that it leaves memory below its own blocks alone. / burn: the heat of a second at a lag: both ends of its span, of a hood, readings, a drift in their limits; the table of the two ends lies as its initialiser lays it. / burn: the lags of a hood, one after the other: what the iterator yields, to whatever loop. / burn.open: a hood at work, with its readings: by hand, so that the readings are read as they lie. / burn: the heat of a second at a lag: both ends of its span, of a hood, readings, a drift in their limits; the table of the two ends lies as its initialiser lays it. / burn: both and widest: one span that has all that some spans have. -/
import Derived.Test.YtaijhbliagjeaaaDoorPkLawBurnWider1
import Derived.Test.YtaijhbliagjeaaaDoorProg
import Derived.Below
import Derived.Deep.Draws
import Derived.Deep.AppendLies
import Derived.Maps.AppendAt
import Derived.OwnWalk
import Derived.Laws.BytesArg
import Derived.Laws.MakeOwn
import Derived.Laws.OwnMore
import Derived.Deep.OwnRows
import Derived.Tactics
import Derived.Lib.ConvBytes
import Derived.Laws.Slices
import Derived.WalkKit
import Derived.KernelRfl
import Derived.RowKit3
import Derived.Deep.LoopGhost
import Derived.Deep.QuietTactic
import Derived.BigQuiet
import Derived.WideLaws
import Derived.Deep.DeepCutAuto
import Derived.Deep.CutBlock
import Derived.Deep.RegionHeld3
import Derived.Laws.Rows
import Derived.Lib.AppendStr
import Derived.ArgAppend
import Derived.Laws.IdiomCopy
import Derived.OrdersHeld
import Derived.Laws.BitsLemmas
import Derived.RowKit
import Derived.IntWalk
import Derived.RangeFuncNested
import Derived.RangeFuncBound
import Derived.RangeFuncCalls
import Derived.RangeFuncLeaves
import Derived.Shelf.Abstract
import Derived.OwnWalkIn
import Derived.TacticsInMore
import Derived.LoopNIn
import Derived.LoopIn
import Derived.Laws.EntriesVeiled
import Derived.Outline
namespace Go.Proofs.YtaijhbliagjeaaaDoorW.PrintWords
open Go.RowKit
section
variable {P : Program} {ops : Array Oper} {rest : List Oper} {o : Oper} {a : Act} {Q : Exit → Act → World → Prop} {W : World}
/-- The gate takes the guard off (hw: 'by rfl', 'by kernel_rfl': the guard's slot holds what is wanted). -/
theorem gate_guard (hw : Region.wanted o (yielded ops a.tmps) = true) (h : wpList P ops Q ({ o with guard := none } :: rest) a W) : wpList P ops Q (o :: rest) a W := by
  have h1 : Region.wanted { o with guard := none } (yielded ops a.tmps) = true := rfl
  unfold wpList at h ⊢
  rw [if_pos h1] at h
  rw [if_pos hw]
  exact h
end
end Go.Proofs.YtaijhbliagjeaaaDoorW.PrintWords
namespace Go.Proofs.YtaijhbliagjeaaaDoor.PC2
open Go.RowKit Go.Proofs.YtaijhbliagjeaaaDoorW.PrintWords Go.Proofs.YtaijhbliagjeaaaDoorW.PrintLast Go.Proofs.YtaijhbliagjeaaaDoorW.PrintMore
attribute [local go_sem] max2_int min2_int max_two min_two max_three min_three max_four min_four -- for this text's walks alone
set_option linter.unusedVariables false
set_option linter.unusedSimpArgs false
def errW : Option Int → Value
  | none => .nilIface
  | some c => .iface 0 (.int .i64 c)
theorem errW_none : errW none = .nilIface := rfl
theorem errW_some (c : Int) : errW (some c) = .iface 0 (.int .i64 c) := rfl
theorem info3 : (Tryd.prog.info? 3).map (fun i => (i.zero, i.size, i.bytes)) = some (some (.int .i64 0), 1, 8) := by kernel_rfl
theorem A_ {P : Prop} (h : P) : Aside0 P := ⟨h⟩
theorem bk_ {Q R : Prop} (h : R) (k : R → Q := by intro h_; (with_reducible repeat (first | refine blk_drewN ?_ _ | refine blk_drew ?_ | refine blk_alloc ?_ _)); exact h_) : Q := k h
theorem bb_ {w w1 w2 : World} {g : Nat} {o : Obj} (h : w.heap[g]? = some o) (hb : Below w1.heap.size w1 w2) (k : w.heap[g]? = some o → w1.heap[g]? = some o := by intro h_; (with_reducible repeat (first | refine blk_drewN ?_ _ | refine blk_drew ?_ | refine blk_alloc ?_ _)); exact h_) : Aside0 (w2.heap[g]? = some o) := ⟨blk_below (k h) hb⟩
theorem kr_ {Q R : Prop} (h : R) (k : R → Q := by intro h_; (with_reducible repeat (first | apply Kd.R_alloc | apply Kd.R_drewN | apply Kd.R_drew)); exact h_) : Q := k h
theorem sT_ {α : Type} (l : List α) (i : Nat) (a : α) : l.toArray.setIfInBounds i a = (l.set i a).toArray := List.setIfInBounds_toArray ..
theorem s0_ {α : Type} (x a : α) (xs : List α) : (x :: xs).set 0 a = a :: xs := rfl
theorem sS_ {α : Type} (x a : α) (xs : List α) (n : Nat) : (x :: xs).set (n + 1) a = x :: xs.set n a := rfl
end Go.Proofs.YtaijhbliagjeaaaDoor.PC2
namespace Go.Proofs.YtaijhbliagjeaaaDoor.PC2
open Go.RowKit Go.Proofs.YtaijhbliagjeaaaDoorW.PrintWords Go.Proofs.YtaijhbliagjeaaaDoorW.PrintLast Go.Proofs.YtaijhbliagjeaaaDoorW.PrintMore
attribute [local go_sem] max2_int min2_int max_two min_two max_three min_three max_four min_four -- for this text's walks alone
set_option linter.unusedVariables false
set_option linter.unusedSimpArgs false
/-! ### burn_ordered: function 43 -/
def burn_ordered.f (a0 : Int) (a1 : Int) (a2_0 : Int) (a2_1 : Int) : Option (Bool) := (burn_in.f a0 a1 (([a2_0, a2_1] : List Int))).bind fun t105 => (if t105 = true then (some (decide (a2_0 ≤ a2_1))) else (some false))
set_option maxHeartbeats 8000000 in
set_option maxRecDepth 100000 in
theorem burn_ordered.calls (a0 : Int) (a1 : Int) (a2_0 : Int) (a2_1 : Int) (r : Bool) (w : World) (h : burn_ordered.f a0 a1 a2_0 a2_1 = some r) :
  Calls Tryd.prog 43 #[.int .i64 a0, .int .i64 a1, .agg #[.int .i64 a2_0, .int .i64 a2_1]] w fun e w' => e = .returned (.bool r) ∧ Below w.heap.size w w' := by
 have hu23 := Tryd.underlying23
 have HB := A_ (Below.refl w.heap.size w)
 have H : ((burn_in.f a0 a1 (([a2_0, a2_1] : List Int))).bind fun t105 => (if t105 = true then (some (decide (a2_0 ≤ a2_1))) else (some false))) = some r := h
 clear h
 obtain ⟨y102, hy102⟩ : ∃ y_ : List Int, y_ = (([a2_0, a2_1] : List Int)) := ⟨_, rfl⟩
 replace H : ((burn_in.f a0 a1 y102).bind fun t105 => (if t105 = true then (some (decide (a2_0 ≤ a2_1))) else (some false))) = some r := by first | (rw [hy102]; with_reducible exact H) | (have H2_ := (Option.bind_some _ _).symm.trans H; rw [hy102]; with_reducible exact H2_) | (have H2_ := (Option.bind_some _ _).symm.trans H; with_reducible exact H2_) | with_reducible exact H | (rw [hy102]; exact H) | exact H
 have Ny102 := A_ hy102
 clear hy102
 replace H := Option.bind_eq_some_iff.mp H
 obtain ⟨t105, A40, H⟩ := H
 try dsimp only at H
 have A4 := A_ A40
 clear A40
 by_cases c5 : t105 = true
 ·
  subst c5
  have H1 : (some (decide (a2_0 ≤ a2_1))) = some r := by rw [if_pos rfl] at H; exact H
  clear H
  have H := H1
  clear H1
  obtain rfl := Option.some.inj H
  go_enter Tryd.func43, Tryd.ntmps43
  go_wp2_with (first | ((with_reducible refine gate_dst (N := 5) rfl ?_); refine box_event ?hg (N := 5) ?hd (cs := #[.int .i64 a2_0, .int .i64 a2_1]) (t := 23) ?hr ?_; (case hd => rfl); (case hg => rfl); (case hr => first | (go_simp; done) | (go_simp; rfl)); intro gb101 hg w6 hbox hb; have n0_ := A_ (below_step (by repeat (first | (with_reducible first | exact HB.out | apply below_alloc | apply pw_below_drewN | apply below_drew1) | exact HB.out)) hb); have n1_ := A_ (hbox); have n2_ := A_ ((by rw [hg]; exact (below_size (by repeat (first | (with_reducible first | exact HB.out | apply below_alloc | apply pw_below_drewN | apply below_drew1) | exact HB.out))) : w.heap.size ≤ gb101)); have n3_ := A_ ((by rw [hg]; exact (below_size (by repeat (first | (with_reducible first | exact HB.out | apply below_alloc | apply pw_below_drewN | apply below_drew1) | exact HB.out))) : w.heap.size ≤ gb101)); clear HB; have HB := n0_; have BK101 := n1_; have GW101 := n2_; have GE101 := n3_; clear n0_ n1_ n2_ n3_; clear hb hbox hg; have hcz7_0 : w6.cell? ⟨gb101, 0, none⟩ = some (.int .i64 a2_0) := (blk_cell BK101.out 0).trans rfl; have hcz7_1 : w6.cell? ⟨gb101, 1, none⟩ = some (.int .i64 a2_1) := (blk_cell BK101.out 1).trans rfl; have hfz7_0 := blk_frozen BK101.out 0; have hfz7_1 := blk_frozen BK101.out 1) | ((with_reducible refine gate_dst (N := 13) rfl ?_); refine Kd.R_lit (Kd.int .i64) _ 3 ?hg (N := 13) ?hd (xs := ([a2_0, a2_1] : List Int)) (inner := [.int .i64 a2_0, .int .i64 a2_1]) (ok := fun _ => True) (okp := fun _ => True) ?hr ?hp (fun _ hk => hk) trivial (Below.refl _ _) (Nat.le_refl _) (by simp) ?_; (case hd => rfl); (case hg => rfl); (case hr => first | (go_simp; done) | (go_simp; rfl)); (case hp => exact (Reps.one (show Kd.M (Kd.int .i64) _ _ _ a2_0 [.int .i64 a2_0] from rfl) (Reps.one (show Kd.M (Kd.int .i64) _ _ _ a2_1 [.int .i64 a2_1] from rfl) (Reps.none _ _)))); intro v103 w8 ho9 hb hg_ hnew_; clear hg_ hnew_; (first | rw [← Ny102.out] at ho9 | (simp only [Int.reduceToNat] at ho9; rw [← Ny102.out] at ho9)); have n0_ := A_ (Kd.R_lower ho9 (below_size (by repeat (first | (with_reducible first | exact HB.out | apply below_alloc | apply pw_below_drewN | apply below_drew1 | refine below_set ?_ GE101.out) | exact HB.out)))); have n1_ := bb_ BK101.out hb; have n2_ := A_ (below_step (by repeat (first | (with_reducible first | exact HB.out | apply below_alloc | apply pw_below_drewN | apply below_drew1 | refine below_set ?_ GE101.out) | exact HB.out)) hb); clear BK101; clear HB; have HO104 := n0_; have BK101 := n1_; have HB := n2_; clear n0_ n1_ n2_; clear hb ho9; obtain ⟨Ao10, co10, eo10⟩ := Kd.R_slice HO104.out; subst eo10) | ((with_reducible refine gate_callee (f := 27) rfl ?_); refine goesL_ (some 14) rfl rfl Tryd.func27 (by kernel_rfl) rfl #[.int .i64 a0, .int .i64 a1, .slice Ao10 y102.length co10] rfl (by (try simp only [List.map_toArray, List.map_cons, List.map_nil]); first | done | rfl | (simp only [List.length_drop, List.length_take]; rfl)) ?_; (with_reducible refine (burn_in.calls a0 a1 _ _ y102 true _ ?side1 ?side2 A4.out).mono ?_); (case side1 => repeat (first | exact (Kd.R_reads' HO104.out).2.2 | (with_reducible refine Kd.C_alloc ?_ _) | (with_reducible refine Kd.C_drewN ?_ _) | (with_reducible refine Kd.C_drew ?_))); (case side2 => exact (Kd.R_reads' HO104.out).2.1); rintro e w11 ⟨rfl, hb⟩; refine ⟨_, rfl, ?_⟩; have n0_ := A_ (Kd.R_below (kr_ HO104.out) hb); have n1_ := bb_ BK101.out hb; have n2_ := A_ (below_step (by repeat (first | (with_reducible first | exact HB.out | apply below_alloc | apply pw_below_drewN | apply below_drew1 | refine below_set ?_ GE101.out) | exact HB.out)) hb); clear HO104; clear BK101; clear HB; have HO104 := n0_; have BK101 := n1_; have HB := n2_; clear n0_ n1_ n2_; (try clear hb); (try clear hb2); (try clear hk); (try clear hi); have hcz12_0 : w11.cell? ⟨gb101, 0, none⟩ = some (.int .i64 a2_0) := (blk_cell BK101.out 0).trans rfl; have hcz12_1 : w11.cell? ⟨gb101, 1, none⟩ = some (.int .i64 a2_1) := (blk_cell BK101.out 1).trans rfl; have hfz12_0 := blk_frozen BK101.out 0; have hfz12_1 := blk_frozen BK101.out 1))
  go_ret
  exact ⟨by first | rfl | (simp [errW_none, errW_some] <;> rfl) | (simp [*, errW_none, errW_some] <;> rfl), by repeat (first | (with_reducible first | exact HB.out | apply below_alloc | apply pw_below_drewN | apply below_drew1 | refine below_set ?_ GE101.out) | exact HB.out)⟩
 ·
  replace c5 := Bool.eq_false_iff.mpr c5
  subst c5
  have H1 : (some false) = some r := by rw [if_neg (show ¬ (false = true) by decide)] at H; exact H
  clear H
  have H := H1
  clear H1
  obtain rfl := Option.some.inj H
  go_enter Tryd.func43, Tryd.ntmps43
  go_wp2_with (first | ((with_reducible refine gate_dst (N := 5) rfl ?_); refine box_event ?hg (N := 5) ?hd (cs := #[.int .i64 a2_0, .int .i64 a2_1]) (t := 23) ?hr ?_; (case hd => rfl); (case hg => rfl); (case hr => first | (go_simp; done) | (go_simp; rfl)); intro gb101 hg w13 hbox hb; have n0_ := A_ (below_step (by repeat (first | (with_reducible first | exact HB.out | apply below_alloc | apply pw_below_drewN | apply below_drew1) | exact HB.out)) hb); have n1_ := A_ (hbox); have n2_ := A_ ((by rw [hg]; exact (below_size (by repeat (first | (with_reducible first | exact HB.out | apply below_alloc | apply pw_below_drewN | apply below_drew1) | exact HB.out))) : w.heap.size ≤ gb101)); have n3_ := A_ ((by rw [hg]; exact (below_size (by repeat (first | (with_reducible first | exact HB.out | apply below_alloc | apply pw_below_drewN | apply below_drew1) | exact HB.out))) : w.heap.size ≤ gb101)); clear HB; have HB := n0_; have BK101 := n1_; have GW101 := n2_; have GE101 := n3_; clear n0_ n1_ n2_ n3_; clear hb hbox hg; have hcz14_0 : w13.cell? ⟨gb101, 0, none⟩ = some (.int .i64 a2_0) := (blk_cell BK101.out 0).trans rfl; have hcz14_1 : w13.cell? ⟨gb101, 1, none⟩ = some (.int .i64 a2_1) := (blk_cell BK101.out 1).trans rfl; have hfz14_0 := blk_frozen BK101.out 0; have hfz14_1 := blk_frozen BK101.out 1) | ((with_reducible refine gate_dst (N := 13) rfl ?_); refine Kd.R_lit (Kd.int .i64) _ 3 ?hg (N := 13) ?hd (xs := ([a2_0, a2_1] : List Int)) (inner := [.int .i64 a2_0, .int .i64 a2_1]) (ok := fun _ => True) (okp := fun _ => True) ?hr ?hp (fun _ hk => hk) trivial (Below.refl _ _) (Nat.le_refl _) (by simp) ?_; (case hd => rfl); (case hg => rfl); (case hr => first | (go_simp; done) | (go_simp; rfl)); (case hp => exact (Reps.one (show Kd.M (Kd.int .i64) _ _ _ a2_0 [.int .i64 a2_0] from rfl) (Reps.one (show Kd.M (Kd.int .i64) _ _ _ a2_1 [.int .i64 a2_1] from rfl) (Reps.none _ _)))); intro v103 w15 ho16 hb hg_ hnew_; clear hg_ hnew_; (first | rw [← Ny102.out] at ho16 | (simp only [Int.reduceToNat] at ho16; rw [← Ny102.out] at ho16)); have n0_ := A_ (Kd.R_lower ho16 (below_size (by repeat (first | (with_reducible first | exact HB.out | apply below_alloc | apply pw_below_drewN | apply below_drew1 | refine below_set ?_ GE101.out) | exact HB.out)))); have n1_ := bb_ BK101.out hb; have n2_ := A_ (below_step (by repeat (first | (with_reducible first | exact HB.out | apply below_alloc | apply pw_below_drewN | apply below_drew1 | refine below_set ?_ GE101.out) | exact HB.out)) hb); clear BK101; clear HB; have HO104 := n0_; have BK101 := n1_; have HB := n2_; clear n0_ n1_ n2_; clear hb ho16; obtain ⟨Ao17, co17, eo17⟩ := Kd.R_slice HO104.out; subst eo17) | ((with_reducible refine gate_callee (f := 27) rfl ?_); refine goesL_ (some 14) rfl rfl Tryd.func27 (by kernel_rfl) rfl #[.int .i64 a0, .int .i64 a1, .slice Ao17 y102.length co17] rfl (by (try simp only [List.map_toArray, List.map_cons, List.map_nil]); first | done | rfl | (simp only [List.length_drop, List.length_take]; rfl)) ?_; (with_reducible refine (burn_in.calls a0 a1 _ _ y102 false _ ?side1 ?side2 A4.out).mono ?_); (case side1 => repeat (first | exact (Kd.R_reads' HO104.out).2.2 | (with_reducible refine Kd.C_alloc ?_ _) | (with_reducible refine Kd.C_drewN ?_ _) | (with_reducible refine Kd.C_drew ?_))); (case side2 => exact (Kd.R_reads' HO104.out).2.1); rintro e w18 ⟨rfl, hb⟩; refine ⟨_, rfl, ?_⟩; have n0_ := A_ (Kd.R_below (kr_ HO104.out) hb); have n1_ := bb_ BK101.out hb; have n2_ := A_ (below_step (by repeat (first | (with_reducible first | exact HB.out | apply below_alloc | apply pw_below_drewN | apply below_drew1 | refine below_set ?_ GE101.out) | exact HB.out)) hb); clear HO104; clear BK101; clear HB; have HO104 := n0_; have BK101 := n1_; have HB := n2_; clear n0_ n1_ n2_; (try clear hb); (try clear hb2); (try clear hk); (try clear hi)))
  go_ret
  exact ⟨by first | rfl | (simp [errW_none, errW_some] <;> rfl) | (simp [*, errW_none, errW_some] <;> rfl), by repeat (first | (with_reducible first | exact HB.out | apply below_alloc | apply pw_below_drewN | apply below_drew1 | refine below_set ?_ GE101.out) | exact HB.out)⟩
/-! ### burn_Check: function 34 -/
def burn_Check.j0 : Nat → List Int → Bool → Option (Int)
 | 0, _, _ => none
 | k + 1, x1, x5 => if x5 = true then (some 40) else (if (x1.length : Int) > 120 then (some 41) else ((burn_in.f 0 1000000 x1).bind fun t115 => (if t115 = true then (some 0) else (some 41))))
def burn_Check.f (k : Nat) (a0_0 : Int) (a0_1 : Int) (a0_2 : Int) (a0_3 : Int) (a0_4 : Int) (a0_5 : Int) (a0_6 : Int) (a0_7 : Int) (a0_8 : Int) (l1 : List Int) : Option (Int) := (burn_ordered.f 0 1000000 a0_0 a0_1).bind fun t107 => (if t107 = true then ((burn_ordered.f 0 10000 a0_2 a0_3).bind fun t108 => (if t108 = true then ((burn_ordered.f 0 30000 a0_4 a0_5).bind fun t109 => (if t109 = true then ((burn_ordered.f 0 30 a0_6 a0_7).bind fun t110 => (if t110 = true then ((burn_in.f 0 1000 (([a0_8] : List Int))).bind fun t114 => (burn_Check.j0 k l1 (!t114))) else (burn_Check.j0 k l1 true))) else (burn_Check.j0 k l1 true))) else (burn_Check.j0 k l1 true))) else (burn_Check.j0 k l1 true))
theorem burn_Check.mono_l : ∀ k, (∀ y0 y1, LeO (burn_Check.j0 k y0 y1) (burn_Check.j0 (k + 1) y0 y1))
 | 0 => fun _ _ r h => by simp [burn_Check.j0] at h
 | k + 1 => by
  have ih0 := burn_Check.mono_l k
  ·
   intro y0 y1
   unfold burn_Check.j0
   repeat' first
   | (with_reducible exact ih0 _ _)
   | (with_reducible exact LeO.refl _)
   | (with_reducible exact LeO.none _)
   | (with_reducible refine LeO.ite ?_ ?_)
   | (with_reducible refine LeO.bind ?_ (fun _ => ?_))
   | exact ih0 _ _
   | exact LeO.none _
   | refine LeO.ite ?_ ?_
   | refine LeO.bind ?_ (fun _ => ?_)
theorem burn_Check.mono : ∀ a0 a1 a2 a3 a4 a5 a6 a7 a8 a9 k, LeO (burn_Check.f k a0 a1 a2 a3 a4 a5 a6 a7 a8 a9) (burn_Check.f (k + 1) a0 a1 a2 a3 a4 a5 a6 a7 a8 a9) := by
 intro a0 a1 a2 a3 a4 a5 a6 a7 a8 a9 k
 have ih0 := burn_Check.mono_l k
 unfold burn_Check.f
 repeat' first
   | (with_reducible exact ih0 _ _)
   | (with_reducible exact LeO.refl _)
   | (with_reducible exact LeO.none _)
   | (with_reducible refine LeO.ite ?_ ?_)
   | (with_reducible refine LeO.bind ?_ (fun _ => ?_))
   | exact ih0 _ _
   | exact LeO.none _
   | refine LeO.ite ?_ ?_
   | refine LeO.bind ?_ (fun _ => ?_)
set_option maxHeartbeats 8000000 in
set_option maxRecDepth 100000 in
theorem burn_Check.calls (k : Nat) (a0_0 : Int) (a0_1 : Int) (a0_2 : Int) (a0_3 : Int) (a0_4 : Int) (a0_5 : Int) (a0_6 : Int) (a0_7 : Int) (a0_8 : Int) (A1 : Option Addr) (c1 : Nat) (l1 : List Int) (r : Int) (w : World) (hr1 : Kd.C (Kd.int .i64) w A1 l1.length l1) (hc1 : l1.length ≤ c1) (h : burn_Check.f k a0_0 a0_1 a0_2 a0_3 a0_4 a0_5 a0_6 a0_7 a0_8 l1 = some r) :
  Calls Tryd.prog 34 #[.agg #[.int .i64 a0_0, .int .i64 a0_1, .int .i64 a0_2, .int .i64 a0_3, .int .i64 a0_4, .int .i64 a0_5, .int .i64 a0_6, .int .i64 a0_7, .int .i64 a0_8], .slice A1 l1.length c1] w fun e w' => e = .returned (.int .i64 r) ∧ Below w.heap.size w w' := by
 have hu25 := Tryd.underlying25
 have hu23 := Tryd.underlying23
 have HR1 := A_ hr1
 have HC1 := A_ hc1
 clear hr1 hc1
 have HB := A_ (Below.refl w.heap.size w)
 have H : ((burn_ordered.f 0 1000000 a0_0 a0_1).bind fun t107 => (if t107 = true then ((burn_ordered.f 0 10000 a0_2 a0_3).bind fun t108 => (if t108 = true then ((burn_ordered.f 0 30000 a0_4 a0_5).bind fun t109 => (if t109 = true then ((burn_ordered.f 0 30 a0_6 a0_7).bind fun t110 => (if t110 = true then ((burn_in.f 0 1000 (([a0_8] : List Int))).bind fun t114 => (burn_Check.j0 k l1 (!t114))) else (burn_Check.j0 k l1 true))) else (burn_Check.j0 k l1 true))) else (burn_Check.j0 k l1 true))) else (burn_Check.j0 k l1 true))) = some r := h
 clear h
 have HC3 := A_ H
 clear H
 go_enter Tryd.func34, Tryd.ntmps34
 go_upto_region 1 with (first | ((with_reducible refine gate_dst (N := 2) rfl ?_); (try (refine gate_guard (by rfl) ?_; dsimp only)); refine box_event ?hg (N := 2) ?hd (cs := #[.int .i64 a0_0, .int .i64 a0_1, .int .i64 a0_2, .int .i64 a0_3, .int .i64 a0_4, .int .i64 a0_5, .int .i64 a0_6, .int .i64 a0_7, .int .i64 a0_8]) (t := 25) ?hr ?_; (case hd => rfl); (case hg => rfl); (case hr => first | (go_simp; done) | (go_simp; rfl)); intro gb106 hg w4 hbox hb; have n0_ := A_ (below_step (by repeat (first | (with_reducible first | exact HB.out | apply below_alloc | apply pw_below_drewN | apply below_drew1) | exact HB.out)) hb); have n1_ := A_ (hbox); have n2_ := A_ ((by rw [hg]; exact (below_size (by repeat (first | (with_reducible first | exact HB.out | apply below_alloc | apply pw_below_drewN | apply below_drew1) | exact HB.out))) : w.heap.size ≤ gb106)); have n3_ := A_ ((by rw [hg]; exact (below_size (by repeat (first | (with_reducible first | exact HB.out | apply below_alloc | apply pw_below_drewN | apply below_drew1) | exact HB.out))) : w.heap.size ≤ gb106)); clear HB; have HB := n0_; have BK106 := n1_; have GW106 := n2_; have GE106 := n3_; clear n0_ n1_ n2_ n3_; clear hb hbox hg))
 (try simp only [Act.put, List.setIfInBounds_toArray, List.set_cons_zero, List.set_cons_succ])
 go_cut [5] (fun v5 wc => ∃ (kq : Nat) (x5_2 : Bool), v5 = .bool x5_2 ∧ Aside0 (burn_Check.j0 kq l1 x5_2 = some r) ∧ Aside0 (kq ≤ k) ∧ Aside0 (wc.heap[gb106]? = some (.cells #[.int .i64 a0_0, .int .i64 a0_1, .int .i64 a0_2, .int .i64 a0_3, .int .i64 a0_4, .int .i64 a0_5, .int .i64 a0_6, .int .i64 a0_7, .int .i64 a0_8] 25 (0, 0))) ∧ Aside0 (Below w.heap.size w wc))
 case first =>
  have H := HC3.out
  clear HC3
  replace H := Option.bind_eq_some_iff.mp H
  obtain ⟨t107, A50, H⟩ := H
  try dsimp only at H
  have A5 := A_ A50
  clear A50
  by_cases c6 : t107 = true
  ·
   subst c6
   have H1 : ((burn_ordered.f 0 10000 a0_2 a0_3).bind fun t108 => (if t108 = true then ((burn_ordered.f 0 30000 a0_4 a0_5).bind fun t109 => (if t109 = true then ((burn_ordered.f 0 30 a0_6 a0_7).bind fun t110 => (if t110 = true then ((burn_in.f 0 1000 (([a0_8] : List Int))).bind fun t114 => (burn_Check.j0 k l1 (!t114))) else (burn_Check.j0 k l1 true))) else (burn_Check.j0 k l1 true))) else (burn_Check.j0 k l1 true))) = some r := by rw [if_pos rfl] at H; exact H
   clear H
   have H := H1
   clear H1
   replace H := Option.bind_eq_some_iff.mp H
   obtain ⟨t108, A70, H⟩ := H
   try dsimp only at H
   have A7 := A_ A70
   clear A70
   by_cases c8 : t108 = true
   ·
    subst c8
    have H1 : ((burn_ordered.f 0 30000 a0_4 a0_5).bind fun t109 => (if t109 = true then ((burn_ordered.f 0 30 a0_6 a0_7).bind fun t110 => (if t110 = true then ((burn_in.f 0 1000 (([a0_8] : List Int))).bind fun t114 => (burn_Check.j0 k l1 (!t114))) else (burn_Check.j0 k l1 true))) else (burn_Check.j0 k l1 true))) = some r := by rw [if_pos rfl] at H; exact H
    clear H
    have H := H1
    clear H1
    replace H := Option.bind_eq_some_iff.mp H
    obtain ⟨t109, A90, H⟩ := H
    try dsimp only at H
    have A9 := A_ A90
    clear A90
    by_cases c10 : t109 = true
    ·
     subst c10
     have H1 : ((burn_ordered.f 0 30 a0_6 a0_7).bind fun t110 => (if t110 = true then ((burn_in.f 0 1000 (([a0_8] : List Int))).bind fun t114 => (burn_Check.j0 k l1 (!t114))) else (burn_Check.j0 k l1 true))) = some r := by rw [if_pos rfl] at H; exact H
     clear H
     have H := H1
     clear H1
     replace H := Option.bind_eq_some_iff.mp H
     obtain ⟨t110, A110, H⟩ := H
     try dsimp only at H
     have A11 := A_ A110
     clear A110
     by_cases c12 : t110 = true
     ·
      subst c12
      have H1 : ((burn_in.f 0 1000 (([a0_8] : List Int))).bind fun t114 => (burn_Check.j0 k l1 (!t114))) = some r := by rw [if_pos rfl] at H; exact H
      clear H
      have H := H1
      clear H1
      obtain ⟨y111, hy111⟩ : ∃ y_ : List Int, y_ = (([a0_8] : List Int)) := ⟨_, rfl⟩
      replace H : ((burn_in.f 0 1000 y111).bind fun t114 => (burn_Check.j0 k l1 (!t114))) = some r := by first | (rw [hy111]; with_reducible exact H) | (have H2_ := (Option.bind_some _ _).symm.trans H; rw [hy111]; with_reducible exact H2_) | (have H2_ := (Option.bind_some _ _).symm.trans H; with_reducible exact H2_) | with_reducible exact H | (rw [hy111]; exact H) | exact H
      have Ny111 := A_ hy111
      clear hy111
      replace H := Option.bind_eq_some_iff.mp H
      obtain ⟨t114, A130, H⟩ := H
      try dsimp only at H
      have A13 := A_ A130
      clear A130
      have H' := A_ H
      clear H
      have hcz14_0 : w4.cell? ⟨gb106, 0, none⟩ = some (.int .i64 a0_0) := (blk_cell BK106.out 0).trans rfl
      have hcz14_1 : w4.cell? ⟨gb106, 1, none⟩ = some (.int .i64 a0_1) := (blk_cell BK106.out 1).trans rfl
      have hcz14_2 : w4.cell? ⟨gb106, 2, none⟩ = some (.int .i64 a0_2) := (blk_cell BK106.out 2).trans rfl
      have hcz14_3 : w4.cell? ⟨gb106, 3, none⟩ = some (.int .i64 a0_3) := (blk_cell BK106.out 3).trans rfl
      have hcz14_4 : w4.cell? ⟨gb106, 4, none⟩ = some (.int .i64 a0_4) := (blk_cell BK106.out 4).trans rfl
      have hcz14_5 : w4.cell? ⟨gb106, 5, none⟩ = some (.int .i64 a0_5) := (blk_cell BK106.out 5).trans rfl
      have hcz14_6 : w4.cell? ⟨gb106, 6, none⟩ = some (.int .i64 a0_6) := (blk_cell BK106.out 6).trans rfl
      have hcz14_7 : w4.cell? ⟨gb106, 7, none⟩ = some (.int .i64 a0_7) := (blk_cell BK106.out 7).trans rfl
      have hcz14_8 : w4.cell? ⟨gb106, 8, none⟩ = some (.int .i64 a0_8) := (blk_cell BK106.out 8).trans rfl
      have hfz14_0 := blk_frozen BK106.out 0
      have hfz14_1 := blk_frozen BK106.out 1
      have hfz14_2 := blk_frozen BK106.out 2
      have hfz14_3 := blk_frozen BK106.out 3
      have hfz14_4 := blk_frozen BK106.out 4
      have hfz14_5 := blk_frozen BK106.out 5
      have hfz14_6 := blk_frozen BK106.out 6
      have hfz14_7 := blk_frozen BK106.out 7
      have hfz14_8 := blk_frozen BK106.out 8
      go_wp2_with (first | ((with_reducible refine gate_callee (f := 43) rfl ?_); refine goesL_ (some 8) rfl rfl Tryd.func43 (by kernel_rfl) rfl #[.int .i64 0, .int .i64 1000000, .agg #[.int .i64 a0_0, .int .i64 a0_1]] rfl (by (try simp only [List.map_toArray, List.map_cons, List.map_nil]); first | done | rfl | (simp only [List.length_drop, List.length_take]; rfl)) ?_; (with_reducible refine (burn_ordered.calls 0 1000000 a0_0 a0_1 true _ A5.out).mono ?_); rintro e w15 ⟨rfl, hb⟩; refine ⟨_, rfl, ?_⟩; have n0_ := bb_ BK106.out hb; have n1_ := A_ (below_step (by repeat (first | (with_reducible first | exact HB.out | apply below_alloc | apply pw_below_drewN | apply below_drew1 | refine below_set ?_ GE106.out) | exact HB.out)) hb); clear BK106; clear HB; have BK106 := n0_; have HB := n1_; clear n0_ n1_; (try clear hb); (try clear hb2); (try clear hk); (try clear hi); have hcz16_0 : w15.cell? ⟨gb106, 0, none⟩ = some (.int .i64 a0_0) := (blk_cell BK106.out 0).trans rfl; have hcz16_1 : w15.cell? ⟨gb106, 1, none⟩ = some (.int .i64 a0_1) := (blk_cell BK106.out 1).trans rfl; have hcz16_2 : w15.cell? ⟨gb106, 2, none⟩ = some (.int .i64 a0_2) := (blk_cell BK106.out 2).trans rfl; have hcz16_3 : w15.cell? ⟨gb106, 3, none⟩ = some (.int .i64 a0_3) := (blk_cell BK106.out 3).trans rfl; have hcz16_4 : w15.cell? ⟨gb106, 4, none⟩ = some (.int .i64 a0_4) := (blk_cell BK106.out 4).trans rfl; have hcz16_5 : w15.cell? ⟨gb106, 5, none⟩ = some (.int .i64 a0_5) := (blk_cell BK106.out 5).trans rfl; have hcz16_6 : w15.cell? ⟨gb106, 6, none⟩ = some (.int .i64 a0_6) := (blk_cell BK106.out 6).trans rfl; have hcz16_7 : w15.cell? ⟨gb106, 7, none⟩ = some (.int .i64 a0_7) := (blk_cell BK106.out 7).trans rfl; have hcz16_8 : w15.cell? ⟨gb106, 8, none⟩ = some (.int .i64 a0_8) := (blk_cell BK106.out 8).trans rfl; have hfz16_0 := blk_frozen BK106.out 0; have hfz16_1 := blk_frozen BK106.out 1; have hfz16_2 := blk_frozen BK106.out 2; have hfz16_3 := blk_frozen BK106.out 3; have hfz16_4 := blk_frozen BK106.out 4; have hfz16_5 := blk_frozen BK106.out 5; have hfz16_6 := blk_frozen BK106.out 6; have hfz16_7 := blk_frozen BK106.out 7; have hfz16_8 := blk_frozen BK106.out 8) | (go_at_call 43; (with_reducible refine (burn_ordered.calls 0 10000 a0_2 a0_3 true _ A7.out).mono ?_); rintro e w17 ⟨rfl, hb⟩; have n0_ := bb_ BK106.out hb; have n1_ := A_ (below_step (by repeat (first | (with_reducible first | exact HB.out | apply below_alloc | apply pw_below_drewN | apply below_drew1 | refine below_set ?_ GE106.out) | exact HB.out)) hb); clear BK106; clear HB; have BK106 := n0_; have HB := n1_; clear n0_ n1_; (try clear hb); (try clear hb2); (try clear hk); (try clear hi); have hcz18_0 : w17.cell? ⟨gb106, 0, none⟩ = some (.int .i64 a0_0) := (blk_cell BK106.out 0).trans rfl; have hcz18_1 : w17.cell? ⟨gb106, 1, none⟩ = some (.int .i64 a0_1) := (blk_cell BK106.out 1).trans rfl; have hcz18_2 : w17.cell? ⟨gb106, 2, none⟩ = some (.int .i64 a0_2) := (blk_cell BK106.out 2).trans rfl; have hcz18_3 : w17.cell? ⟨gb106, 3, none⟩ = some (.int .i64 a0_3) := (blk_cell BK106.out 3).trans rfl; have hcz18_4 : w17.cell? ⟨gb106, 4, none⟩ = some (.int .i64 a0_4) := (blk_cell BK106.out 4).trans rfl; have hcz18_5 : w17.cell? ⟨gb106, 5, none⟩ = some (.int .i64 a0_5) := (blk_cell BK106.out 5).trans rfl; have hcz18_6 : w17.cell? ⟨gb106, 6, none⟩ = some (.int .i64 a0_6) := (blk_cell BK106.out 6).trans rfl; have hcz18_7 : w17.cell? ⟨gb106, 7, none⟩ = some (.int .i64 a0_7) := (blk_cell BK106.out 7).trans rfl; have hcz18_8 : w17.cell? ⟨gb106, 8, none⟩ = some (.int .i64 a0_8) := (blk_cell BK106.out 8).trans rfl; have hfz18_0 := blk_frozen BK106.out 0; have hfz18_1 := blk_frozen BK106.out 1; have hfz18_2 := blk_frozen BK106.out 2; have hfz18_3 := blk_frozen BK106.out 3; have hfz18_4 := blk_frozen BK106.out 4; have hfz18_5 := blk_frozen BK106.out 5; have hfz18_6 := blk_frozen BK106.out 6; have hfz18_7 := blk_frozen BK106.out 7; have hfz18_8 := blk_frozen BK106.out 8) | (go_at_call 43; (with_reducible refine (burn_ordered.calls 0 30000 a0_4 a0_5 true _ A9.out).mono ?_); rintro e w19 ⟨rfl, hb⟩; have n0_ := bb_ BK106.out hb; have n1_ := A_ (below_step (by repeat (first | (with_reducible first | exact HB.out | apply below_alloc | apply pw_below_drewN | apply below_drew1 | refine below_set ?_ GE106.out) | exact HB.out)) hb); clear BK106; clear HB; have BK106 := n0_; have HB := n1_; clear n0_ n1_; (try clear hb); (try clear hb2); (try clear hk); (try clear hi); have hcz20_0 : w19.cell? ⟨gb106, 0, none⟩ = some (.int .i64 a0_0) := (blk_cell BK106.out 0).trans rfl; have hcz20_1 : w19.cell? ⟨gb106, 1, none⟩ = some (.int .i64 a0_1) := (blk_cell BK106.out 1).trans rfl; have hcz20_2 : w19.cell? ⟨gb106, 2, none⟩ = some (.int .i64 a0_2) := (blk_cell BK106.out 2).trans rfl; have hcz20_3 : w19.cell? ⟨gb106, 3, none⟩ = some (.int .i64 a0_3) := (blk_cell BK106.out 3).trans rfl; have hcz20_4 : w19.cell? ⟨gb106, 4, none⟩ = some (.int .i64 a0_4) := (blk_cell BK106.out 4).trans rfl; have hcz20_5 : w19.cell? ⟨gb106, 5, none⟩ = some (.int .i64 a0_5) := (blk_cell BK106.out 5).trans rfl; have hcz20_6 : w19.cell? ⟨gb106, 6, none⟩ = some (.int .i64 a0_6) := (blk_cell BK106.out 6).trans rfl; have hcz20_7 : w19.cell? ⟨gb106, 7, none⟩ = some (.int .i64 a0_7) := (blk_cell BK106.out 7).trans rfl; have hcz20_8 : w19.cell? ⟨gb106, 8, none⟩ = some (.int .i64 a0_8) := (blk_cell BK106.out 8).trans rfl; have hfz20_0 := blk_frozen BK106.out 0; have hfz20_1 := blk_frozen BK106.out 1; have hfz20_2 := blk_frozen BK106.out 2; have hfz20_3 := blk_frozen BK106.out 3; have hfz20_4 := blk_frozen BK106.out 4; have hfz20_5 := blk_frozen BK106.out 5; have hfz20_6 := blk_frozen BK106.out 6; have hfz20_7 := blk_frozen BK106.out 7; have hfz20_8 := blk_frozen BK106.out 8) | (go_at_call 43; (with_reducible refine (burn_ordered.calls 0 30 a0_6 a0_7 true _ A11.out).mono ?_); rintro e w21 ⟨rfl, hb⟩; have n0_ := bb_ BK106.out hb; have n1_ := A_ (below_step (by repeat (first | (with_reducible first | exact HB.out | apply below_alloc | apply pw_below_drewN | apply below_drew1 | refine below_set ?_ GE106.out) | exact HB.out)) hb); clear BK106; clear HB; have BK106 := n0_; have HB := n1_; clear n0_ n1_; (try clear hb); (try clear hb2); (try clear hk); (try clear hi); have hcz22_0 : w21.cell? ⟨gb106, 0, none⟩ = some (.int .i64 a0_0) := (blk_cell BK106.out 0).trans rfl; have hcz22_1 : w21.cell? ⟨gb106, 1, none⟩ = some (.int .i64 a0_1) := (blk_cell BK106.out 1).trans rfl; have hcz22_2 : w21.cell? ⟨gb106, 2, none⟩ = some (.int .i64 a0_2) := (blk_cell BK106.out 2).trans rfl; have hcz22_3 : w21.cell? ⟨gb106, 3, none⟩ = some (.int .i64 a0_3) := (blk_cell BK106.out 3).trans rfl; have hcz22_4 : w21.cell? ⟨gb106, 4, none⟩ = some (.int .i64 a0_4) := (blk_cell BK106.out 4).trans rfl; have hcz22_5 : w21.cell? ⟨gb106, 5, none⟩ = some (.int .i64 a0_5) := (blk_cell BK106.out 5).trans rfl; have hcz22_6 : w21.cell? ⟨gb106, 6, none⟩ = some (.int .i64 a0_6) := (blk_cell BK106.out 6).trans rfl; have hcz22_7 : w21.cell? ⟨gb106, 7, none⟩ = some (.int .i64 a0_7) := (blk_cell BK106.out 7).trans rfl; have hcz22_8 : w21.cell? ⟨gb106, 8, none⟩ = some (.int .i64 a0_8) := (blk_cell BK106.out 8).trans rfl; have hfz22_0 := blk_frozen BK106.out 0; have hfz22_1 := blk_frozen BK106.out 1; have hfz22_2 := blk_frozen BK106.out 2; have hfz22_3 := blk_frozen BK106.out 3; have hfz22_4 := blk_frozen BK106.out 4; have hfz22_5 := blk_frozen BK106.out 5; have hfz22_6 := blk_frozen BK106.out 6; have hfz22_7 := blk_frozen BK106.out 7; have hfz22_8 := blk_frozen BK106.out 8) | ((with_reducible refine gate_dst (N := 31) rfl ?_); (try (refine gate_guard (by rfl) ?_; dsimp only)); refine Kd.R_lit (Kd.int .i64) _ 3 ?hg (N := 31) ?hd (xs := ([a0_8] : List Int)) (inner := [.int .i64 a0_8]) (ok := fun _ => True) (okp := fun _ => True) ?hr ?hp (fun _ hk => hk) trivial (Below.refl _ _) (Nat.le_refl _) (by simp) ?_; (case hd => rfl); (case hg => rfl); (case hr => first | (go_simp; done) | (go_simp; rfl)); (case hp => exact (Reps.one (show Kd.M (Kd.int .i64) _ _ _ a0_8 [.int .i64 a0_8] from rfl) (Reps.none _ _))); intro v112 w23 ho24 hb hg_ hnew_; clear hg_ hnew_; (first | rw [← Ny111.out] at ho24 | (simp only [Int.reduceToNat] at ho24; rw [← Ny111.out] at ho24)); have n0_ := A_ (Kd.R_lower ho24 (below_size (by repeat (first | (with_reducible first | exact HB.out | apply below_alloc | apply pw_below_drewN | apply below_drew1 | refine below_set ?_ GE106.out) | exact HB.out)))); have n1_ := bb_ BK106.out hb; have n2_ := A_ (below_step (by repeat (first | (with_reducible first | exact HB.out | apply below_alloc | apply pw_below_drewN | apply below_drew1 | refine below_set ?_ GE106.out) | exact HB.out)) hb); clear BK106; clear HB; have HO113 := n0_; have BK106 := n1_; have HB := n2_; clear n0_ n1_ n2_; clear hb ho24; obtain ⟨Ao25, co25, eo25⟩ := Kd.R_slice HO113.out; subst eo25) | (go_at_call 27; (with_reducible refine (burn_in.calls 0 1000 _ _ y111 t114 _ ?side1 ?side2 A13.out).mono ?_); (case side1 => repeat (first | exact (Kd.R_reads' HO113.out).2.2 | (with_reducible refine Kd.C_alloc ?_ _) | (with_reducible refine Kd.C_drewN ?_ _) | (with_reducible refine Kd.C_drew ?_))); (case side2 => exact (Kd.R_reads' HO113.out).2.1); rintro e w26 ⟨rfl, hb⟩; have n0_ := A_ (Kd.R_below (kr_ HO113.out) hb); have n1_ := bb_ BK106.out hb; have n2_ := A_ (below_step (by repeat (first | (with_reducible first | exact HB.out | apply below_alloc | apply pw_below_drewN | apply below_drew1 | refine below_set ?_ GE106.out) | exact HB.out)) hb); clear HO113; clear BK106; clear HB; have HO113 := n0_; have BK106 := n1_; have HB := n2_; clear n0_ n1_ n2_; (try clear hb); (try clear hb2); (try clear hk); (try clear hi)))
      go_meet
      case rel => exact ⟨_, (!t114), (by first | rfl | (simp; done) | (simp [*]; done)), H', ⟨by first | omega | exact Nat.le_refl _⟩, ⟨by (with_reducible repeat (first | refine blk_drewN ?_ _ | refine blk_drew ?_ | refine blk_alloc ?_ _)); exact BK106.out⟩, ⟨by repeat (first | (with_reducible first | exact HB.out | apply below_alloc | apply pw_below_drewN | apply below_drew1 | refine below_set ?_ GE106.out) | exact HB.out)⟩⟩
     ·
      replace c12 := Bool.eq_false_iff.mpr c12
      subst c12
      have H1 : (burn_Check.j0 k l1 true) = some r := by rw [if_neg (show ¬ (false = true) by decide)] at H; exact H
      clear H
      have H := H1
      clear H1
      have H' := A_ H
      clear H
      have hcz27_0 : w4.cell? ⟨gb106, 0, none⟩ = some (.int .i64 a0_0) := (blk_cell BK106.out 0).trans rfl
      have hcz27_1 : w4.cell? ⟨gb106, 1, none⟩ = some (.int .i64 a0_1) := (blk_cell BK106.out 1).trans rfl
      have hcz27_2 : w4.cell? ⟨gb106, 2, none⟩ = some (.int .i64 a0_2) := (blk_cell BK106.out 2).trans rfl
      have hcz27_3 : w4.cell? ⟨gb106, 3, none⟩ = some (.int .i64 a0_3) := (blk_cell BK106.out 3).trans rfl
      have hcz27_4 : w4.cell? ⟨gb106, 4, none⟩ = some (.int .i64 a0_4) := (blk_cell BK106.out 4).trans rfl
      have hcz27_5 : w4.cell? ⟨gb106, 5, none⟩ = some (.int .i64 a0_5) := (blk_cell BK106.out 5).trans rfl
      have hcz27_6 : w4.cell? ⟨gb106, 6, none⟩ = some (.int .i64 a0_6) := (blk_cell BK106.out 6).trans rfl
      have hcz27_7 : w4.cell? ⟨gb106, 7, none⟩ = some (.int .i64 a0_7) := (blk_cell BK106.out 7).trans rfl
      have hcz27_8 : w4.cell? ⟨gb106, 8, none⟩ = some (.int .i64 a0_8) := (blk_cell BK106.out 8).trans rfl
      have hfz27_0 := blk_frozen BK106.out 0
      have hfz27_1 := blk_frozen BK106.out 1
      have hfz27_2 := blk_frozen BK106.out 2
      have hfz27_3 := blk_frozen BK106.out 3
      have hfz27_4 := blk_frozen BK106.out 4
      have hfz27_5 := blk_frozen BK106.out 5
      have hfz27_6 := blk_frozen BK106.out 6
      have hfz27_7 := blk_frozen BK106.out 7
      have hfz27_8 := blk_frozen BK106.out 8
      go_wp2_with (first | ((with_reducible refine gate_callee (f := 43) rfl ?_); refine goesL_ (some 8) rfl rfl Tryd.func43 (by kernel_rfl) rfl #[.int .i64 0, .int .i64 1000000, .agg #[.int .i64 a0_0, .int .i64 a0_1]] rfl (by (try simp only [List.map_toArray, List.map_cons, List.map_nil]); first | done | rfl | (simp only [List.length_drop, List.length_take]; rfl)) ?_; (with_reducible refine (burn_ordered.calls 0 1000000 a0_0 a0_1 true _ A5.out).mono ?_); rintro e w28 ⟨rfl, hb⟩; refine ⟨_, rfl, ?_⟩; have n0_ := bb_ BK106.out hb; have n1_ := A_ (below_step (by repeat (first | (with_reducible first | exact HB.out | apply below_alloc | apply pw_below_drewN | apply below_drew1 | refine below_set ?_ GE106.out) | exact HB.out)) hb); clear BK106; clear HB; have BK106 := n0_; have HB := n1_; clear n0_ n1_; (try clear hb); (try clear hb2); (try clear hk); (try clear hi); have hcz29_0 : w28.cell? ⟨gb106, 0, none⟩ = some (.int .i64 a0_0) := (blk_cell BK106.out 0).trans rfl; have hcz29_1 : w28.cell? ⟨gb106, 1, none⟩ = some (.int .i64 a0_1) := (blk_cell BK106.out 1).trans rfl; have hcz29_2 : w28.cell? ⟨gb106, 2, none⟩ = some (.int .i64 a0_2) := (blk_cell BK106.out 2).trans rfl; have hcz29_3 : w28.cell? ⟨gb106, 3, none⟩ = some (.int .i64 a0_3) := (blk_cell BK106.out 3).trans rfl; have hcz29_4 : w28.cell? ⟨gb106, 4, none⟩ = some (.int .i64 a0_4) := (blk_cell BK106.out 4).trans rfl; have hcz29_5 : w28.cell? ⟨gb106, 5, none⟩ = some (.int .i64 a0_5) := (blk_cell BK106.out 5).trans rfl; have hcz29_6 : w28.cell? ⟨gb106, 6, none⟩ = some (.int .i64 a0_6) := (blk_cell BK106.out 6).trans rfl; have hcz29_7 : w28.cell? ⟨gb106, 7, none⟩ = some (.int .i64 a0_7) := (blk_cell BK106.out 7).trans rfl; have hcz29_8 : w28.cell? ⟨gb106, 8, none⟩ = some (.int .i64 a0_8) := (blk_cell BK106.out 8).trans rfl; have hfz29_0 := blk_frozen BK106.out 0; have hfz29_1 := blk_frozen BK106.out 1; have hfz29_2 := blk_frozen BK106.out 2; have hfz29_3 := blk_frozen BK106.out 3; have hfz29_4 := blk_frozen BK106.out 4; have hfz29_5 := blk_frozen BK106.out 5; have hfz29_6 := blk_frozen BK106.out 6; have hfz29_7 := blk_frozen BK106.out 7; have hfz29_8 := blk_frozen BK106.out 8) | (go_at_call 43; (with_reducible refine (burn_ordered.calls 0 10000 a0_2 a0_3 true _ A7.out).mono ?_); rintro e w30 ⟨rfl, hb⟩; have n0_ := bb_ BK106.out hb; have n1_ := A_ (below_step (by repeat (first | (with_reducible first | exact HB.out | apply below_alloc | apply pw_below_drewN | apply below_drew1 | refine below_set ?_ GE106.out) | exact HB.out)) hb); clear BK106; clear HB; have BK106 := n0_; have HB := n1_; clear n0_ n1_; (try clear hb); (try clear hb2); (try clear hk); (try clear hi); have hcz31_0 : w30.cell? ⟨gb106, 0, none⟩ = some (.int .i64 a0_0) := (blk_cell BK106.out 0).trans rfl; have hcz31_1 : w30.cell? ⟨gb106, 1, none⟩ = some (.int .i64 a0_1) := (blk_cell BK106.out 1).trans rfl; have hcz31_2 : w30.cell? ⟨gb106, 2, none⟩ = some (.int .i64 a0_2) := (blk_cell BK106.out 2).trans rfl; have hcz31_3 : w30.cell? ⟨gb106, 3, none⟩ = some (.int .i64 a0_3) := (blk_cell BK106.out 3).trans rfl; have hcz31_4 : w30.cell? ⟨gb106, 4, none⟩ = some (.int .i64 a0_4) := (blk_cell BK106.out 4).trans rfl; have hcz31_5 : w30.cell? ⟨gb106, 5, none⟩ = some (.int .i64 a0_5) := (blk_cell BK106.out 5).trans rfl; have hcz31_6 : w30.cell? ⟨gb106, 6, none⟩ = some (.int .i64 a0_6) := (blk_cell BK106.out 6).trans rfl; have hcz31_7 : w30.cell? ⟨gb106, 7, none⟩ = some (.int .i64 a0_7) := (blk_cell BK106.out 7).trans rfl; have hcz31_8 : w30.cell? ⟨gb106, 8, none⟩ = some (.int .i64 a0_8) := (blk_cell BK106.out 8).trans rfl; have hfz31_0 := blk_frozen BK106.out 0; have hfz31_1 := blk_frozen BK106.out 1; have hfz31_2 := blk_frozen BK106.out 2; have hfz31_3 := blk_frozen BK106.out 3; have hfz31_4 := blk_frozen BK106.out 4; have hfz31_5 := blk_frozen BK106.out 5; have hfz31_6 := blk_frozen BK106.out 6; have hfz31_7 := blk_frozen BK106.out 7; have hfz31_8 := blk_frozen BK106.out 8) | (go_at_call 43; (with_reducible refine (burn_ordered.calls 0 30000 a0_4 a0_5 true _ A9.out).mono ?_); rintro e w32 ⟨rfl, hb⟩; have n0_ := bb_ BK106.out hb; have n1_ := A_ (below_step (by repeat (first | (with_reducible first | exact HB.out | apply below_alloc | apply pw_below_drewN | apply below_drew1 | refine below_set ?_ GE106.out) | exact HB.out)) hb); clear BK106; clear HB; have BK106 := n0_; have HB := n1_; clear n0_ n1_; (try clear hb); (try clear hb2); (try clear hk); (try clear hi); have hcz33_0 : w32.cell? ⟨gb106, 0, none⟩ = some (.int .i64 a0_0) := (blk_cell BK106.out 0).trans rfl; have hcz33_1 : w32.cell? ⟨gb106, 1, none⟩ = some (.int .i64 a0_1) := (blk_cell BK106.out 1).trans rfl; have hcz33_2 : w32.cell? ⟨gb106, 2, none⟩ = some (.int .i64 a0_2) := (blk_cell BK106.out 2).trans rfl; have hcz33_3 : w32.cell? ⟨gb106, 3, none⟩ = some (.int .i64 a0_3) := (blk_cell BK106.out 3).trans rfl; have hcz33_4 : w32.cell? ⟨gb106, 4, none⟩ = some (.int .i64 a0_4) := (blk_cell BK106.out 4).trans rfl; have hcz33_5 : w32.cell? ⟨gb106, 5, none⟩ = some (.int .i64 a0_5) := (blk_cell BK106.out 5).trans rfl; have hcz33_6 : w32.cell? ⟨gb106, 6, none⟩ = some (.int .i64 a0_6) := (blk_cell BK106.out 6).trans rfl; have hcz33_7 : w32.cell? ⟨gb106, 7, none⟩ = some (.int .i64 a0_7) := (blk_cell BK106.out 7).trans rfl; have hcz33_8 : w32.cell? ⟨gb106, 8, none⟩ = some (.int .i64 a0_8) := (blk_cell BK106.out 8).trans rfl; have hfz33_0 := blk_frozen BK106.out 0; have hfz33_1 := blk_frozen BK106.out 1; have hfz33_2 := blk_frozen BK106.out 2; have hfz33_3 := blk_frozen BK106.out 3; have hfz33_4 := blk_frozen BK106.out 4; have hfz33_5 := blk_frozen BK106.out 5; have hfz33_6 := blk_frozen BK106.out 6; have hfz33_7 := blk_frozen BK106.out 7; have hfz33_8 := blk_frozen BK106.out 8) | (go_at_call 43; (with_reducible refine (burn_ordered.calls 0 30 a0_6 a0_7 false _ A11.out).mono ?_); rintro e w34 ⟨rfl, hb⟩; have n0_ := bb_ BK106.out hb; have n1_ := A_ (below_step (by repeat (first | (with_reducible first | exact HB.out | apply below_alloc | apply pw_below_drewN | apply below_drew1 | refine below_set ?_ GE106.out) | exact HB.out)) hb); clear BK106; clear HB; have BK106 := n0_; have HB := n1_; clear n0_ n1_; (try clear hb); (try clear hb2); (try clear hk); (try clear hi)))
      go_meet
      case rel => exact ⟨_, (true), (by first | rfl | (simp; done) | (simp [*]; done)), H', ⟨by first | omega | exact Nat.le_refl _⟩, ⟨by (with_reducible repeat (first | refine blk_drewN ?_ _ | refine blk_drew ?_ | refine blk_alloc ?_ _)); exact BK106.out⟩, ⟨by repeat (first | (with_reducible first | exact HB.out | apply below_alloc | apply pw_below_drewN | apply below_drew1 | refine below_set ?_ GE106.out) | exact HB.out)⟩⟩
    ·
     replace c10 := Bool.eq_false_iff.mpr c10
     subst c10
     have H1 : (burn_Check.j0 k l1 true) = some r := by rw [if_neg (show ¬ (false = true) by decide)] at H; exact H
     clear H
     have H := H1
     clear H1
     have H' := A_ H
     clear H
     have hcz35_0 : w4.cell? ⟨gb106, 0, none⟩ = some (.int .i64 a0_0) := (blk_cell BK106.out 0).trans rfl
     have hcz35_1 : w4.cell? ⟨gb106, 1, none⟩ = some (.int .i64 a0_1) := (blk_cell BK106.out 1).trans rfl
     have hcz35_2 : w4.cell? ⟨gb106, 2, none⟩ = some (.int .i64 a0_2) := (blk_cell BK106.out 2).trans rfl
     have hcz35_3 : w4.cell? ⟨gb106, 3, none⟩ = some (.int .i64 a0_3) := (blk_cell BK106.out 3).trans rfl
     have hcz35_4 : w4.cell? ⟨gb106, 4, none⟩ = some (.int .i64 a0_4) := (blk_cell BK106.out 4).trans rfl
     have hcz35_5 : w4.cell? ⟨gb106, 5, none⟩ = some (.int .i64 a0_5) := (blk_cell BK106.out 5).trans rfl
     have hcz35_6 : w4.cell? ⟨gb106, 6, none⟩ = some (.int .i64 a0_6) := (blk_cell BK106.out 6).trans rfl
     have hcz35_7 : w4.cell? ⟨gb106, 7, none⟩ = some (.int .i64 a0_7) := (blk_cell BK106.out 7).trans rfl
     have hcz35_8 : w4.cell? ⟨gb106, 8, none⟩ = some (.int .i64 a0_8) := (blk_cell BK106.out 8).trans rfl
     have hfz35_0 := blk_frozen BK106.out 0
     have hfz35_1 := blk_frozen BK106.out 1
     have hfz35_2 := blk_frozen BK106.out 2
     have hfz35_3 := blk_frozen BK106.out 3
     have hfz35_4 := blk_frozen BK106.out 4
     have hfz35_5 := blk_frozen BK106.out 5
     have hfz35_6 := blk_frozen BK106.out 6
     have hfz35_7 := blk_frozen BK106.out 7
     have hfz35_8 := blk_frozen BK106.out 8
     go_wp2_with (first | ((with_reducible refine gate_callee (f := 43) rfl ?_); refine goesL_ (some 8) rfl rfl Tryd.func43 (by kernel_rfl) rfl #[.int .i64 0, .int .i64 1000000, .agg #[.int .i64 a0_0, .int .i64 a0_1]] rfl (by (try simp only [List.map_toArray, List.map_cons, List.map_nil]); first | done | rfl | (simp only [List.length_drop, List.length_take]; rfl)) ?_; (with_reducible refine (burn_ordered.calls 0 1000000 a0_0 a0_1 true _ A5.out).mono ?_); rintro e w36 ⟨rfl, hb⟩; refine ⟨_, rfl, ?_⟩; have n0_ := bb_ BK106.out hb; have n1_ := A_ (below_step (by repeat (first | (with_reducible first | exact HB.out | apply below_alloc | apply pw_below_drewN | apply below_drew1 | refine below_set ?_ GE106.out) | exact HB.out)) hb); clear BK106; clear HB; have BK106 := n0_; have HB := n1_; clear n0_ n1_; (try clear hb); (try clear hb2); (try clear hk); (try clear hi); have hcz37_0 : w36.cell? ⟨gb106, 0, none⟩ = some (.int .i64 a0_0) := (blk_cell BK106.out 0).trans rfl; have hcz37_1 : w36.cell? ⟨gb106, 1, none⟩ = some (.int .i64 a0_1) := (blk_cell BK106.out 1).trans rfl; have hcz37_2 : w36.cell? ⟨gb106, 2, none⟩ = some (.int .i64 a0_2) := (blk_cell BK106.out 2).trans rfl; have hcz37_3 : w36.cell? ⟨gb106, 3, none⟩ = some (.int .i64 a0_3) := (blk_cell BK106.out 3).trans rfl; have hcz37_4 : w36.cell? ⟨gb106, 4, none⟩ = some (.int .i64 a0_4) := (blk_cell BK106.out 4).trans rfl; have hcz37_5 : w36.cell? ⟨gb106, 5, none⟩ = some (.int .i64 a0_5) := (blk_cell BK106.out 5).trans rfl; have hcz37_6 : w36.cell? ⟨gb106, 6, none⟩ = some (.int .i64 a0_6) := (blk_cell BK106.out 6).trans rfl; have hcz37_7 : w36.cell? ⟨gb106, 7, none⟩ = some (.int .i64 a0_7) := (blk_cell BK106.out 7).trans rfl; have hcz37_8 : w36.cell? ⟨gb106, 8, none⟩ = some (.int .i64 a0_8) := (blk_cell BK106.out 8).trans rfl; have hfz37_0 := blk_frozen BK106.out 0; have hfz37_1 := blk_frozen BK106.out 1; have hfz37_2 := blk_frozen BK106.out 2; have hfz37_3 := blk_frozen BK106.out 3; have hfz37_4 := blk_frozen BK106.out 4; have hfz37_5 := blk_frozen BK106.out 5; have hfz37_6 := blk_frozen BK106.out 6; have hfz37_7 := blk_frozen BK106.out 7; have hfz37_8 := blk_frozen BK106.out 8) | (go_at_call 43; (with_reducible refine (burn_ordered.calls 0 10000 a0_2 a0_3 true _ A7.out).mono ?_); rintro e w38 ⟨rfl, hb⟩; have n0_ := bb_ BK106.out hb; have n1_ := A_ (below_step (by repeat (first | (with_reducible first | exact HB.out | apply below_alloc | apply pw_below_drewN | apply below_drew1 | refine below_set ?_ GE106.out) | exact HB.out)) hb); clear BK106; clear HB; have BK106 := n0_; have HB := n1_; clear n0_ n1_; (try clear hb); (try clear hb2); (try clear hk); (try clear hi); have hcz39_0 : w38.cell? ⟨gb106, 0, none⟩ = some (.int .i64 a0_0) := (blk_cell BK106.out 0).trans rfl; have hcz39_1 : w38.cell? ⟨gb106, 1, none⟩ = some (.int .i64 a0_1) := (blk_cell BK106.out 1).trans rfl; have hcz39_2 : w38.cell? ⟨gb106, 2, none⟩ = some (.int .i64 a0_2) := (blk_cell BK106.out 2).trans rfl; have hcz39_3 : w38.cell? ⟨gb106, 3, none⟩ = some (.int .i64 a0_3) := (blk_cell BK106.out 3).trans rfl; have hcz39_4 : w38.cell? ⟨gb106, 4, none⟩ = some (.int .i64 a0_4) := (blk_cell BK106.out 4).trans rfl; have hcz39_5 : w38.cell? ⟨gb106, 5, none⟩ = some (.int .i64 a0_5) := (blk_cell BK106.out 5).trans rfl; have hcz39_6 : w38.cell? ⟨gb106, 6, none⟩ = some (.int .i64 a0_6) := (blk_cell BK106.out 6).trans rfl; have hcz39_7 : w38.cell? ⟨gb106, 7, none⟩ = some (.int .i64 a0_7) := (blk_cell BK106.out 7).trans rfl; have hcz39_8 : w38.cell? ⟨gb106, 8, none⟩ = some (.int .i64 a0_8) := (blk_cell BK106.out 8).trans rfl; have hfz39_0 := blk_frozen BK106.out 0; have hfz39_1 := blk_frozen BK106.out 1; have hfz39_2 := blk_frozen BK106.out 2; have hfz39_3 := blk_frozen BK106.out 3; have hfz39_4 := blk_frozen BK106.out 4; have hfz39_5 := blk_frozen BK106.out 5; have hfz39_6 := blk_frozen BK106.out 6; have hfz39_7 := blk_frozen BK106.out 7; have hfz39_8 := blk_frozen BK106.out 8) | (go_at_call 43; (with_reducible refine (burn_ordered.calls 0 30000 a0_4 a0_5 false _ A9.out).mono ?_); rintro e w40 ⟨rfl, hb⟩; have n0_ := bb_ BK106.out hb; have n1_ := A_ (below_step (by repeat (first | (with_reducible first | exact HB.out | apply below_alloc | apply pw_below_drewN | apply below_drew1 | refine below_set ?_ GE106.out) | exact HB.out)) hb); clear BK106; clear HB; have BK106 := n0_; have HB := n1_; clear n0_ n1_; (try clear hb); (try clear hb2); (try clear hk); (try clear hi)))
     go_meet
     case rel => exact ⟨_, (true), (by first | rfl | (simp; done) | (simp [*]; done)), H', ⟨by first | omega | exact Nat.le_refl _⟩, ⟨by (with_reducible repeat (first | refine blk_drewN ?_ _ | refine blk_drew ?_ | refine blk_alloc ?_ _)); exact BK106.out⟩, ⟨by repeat (first | (with_reducible first | exact HB.out | apply below_alloc | apply pw_below_drewN | apply below_drew1 | refine below_set ?_ GE106.out) | exact HB.out)⟩⟩
   ·
    replace c8 := Bool.eq_false_iff.mpr c8
    subst c8
    have H1 : (burn_Check.j0 k l1 true) = some r := by rw [if_neg (show ¬ (false = true) by decide)] at H; exact H
    clear H
    have H := H1
    clear H1
    have H' := A_ H
    clear H
    have hcz41_0 : w4.cell? ⟨gb106, 0, none⟩ = some (.int .i64 a0_0) := (blk_cell BK106.out 0).trans rfl
    have hcz41_1 : w4.cell? ⟨gb106, 1, none⟩ = some (.int .i64 a0_1) := (blk_cell BK106.out 1).trans rfl
    have hcz41_2 : w4.cell? ⟨gb106, 2, none⟩ = some (.int .i64 a0_2) := (blk_cell BK106.out 2).trans rfl
    have hcz41_3 : w4.cell? ⟨gb106, 3, none⟩ = some (.int .i64 a0_3) := (blk_cell BK106.out 3).trans rfl
    have hcz41_4 : w4.cell? ⟨gb106, 4, none⟩ = some (.int .i64 a0_4) := (blk_cell BK106.out 4).trans rfl
    have hcz41_5 : w4.cell? ⟨gb106, 5, none⟩ = some (.int .i64 a0_5) := (blk_cell BK106.out 5).trans rfl
    have hcz41_6 : w4.cell? ⟨gb106, 6, none⟩ = some (.int .i64 a0_6) := (blk_cell BK106.out 6).trans rfl
    have hcz41_7 : w4.cell? ⟨gb106, 7, none⟩ = some (.int .i64 a0_7) := (blk_cell BK106.out 7).trans rfl
    have hcz41_8 : w4.cell? ⟨gb106, 8, none⟩ = some (.int .i64 a0_8) := (blk_cell BK106.out 8).trans rfl
    have hfz41_0 := blk_frozen BK106.out 0
    have hfz41_1 := blk_frozen BK106.out 1
    have hfz41_2 := blk_frozen BK106.out 2
    have hfz41_3 := blk_frozen BK106.out 3
    have hfz41_4 := blk_frozen BK106.out 4
    have hfz41_5 := blk_frozen BK106.out 5
    have hfz41_6 := blk_frozen BK106.out 6
    have hfz41_7 := blk_frozen BK106.out 7
    have hfz41_8 := blk_frozen BK106.out 8
    go_wp2_with (first | ((with_reducible refine gate_callee (f := 43) rfl ?_); refine goesL_ (some 8) rfl rfl Tryd.func43 (by kernel_rfl) rfl #[.int .i64 0, .int .i64 1000000, .agg #[.int .i64 a0_0, .int .i64 a0_1]] rfl (by (try simp only [List.map_toArray, List.map_cons, List.map_nil]); first | done | rfl | (simp only [List.length_drop, List.length_take]; rfl)) ?_; (with_reducible refine (burn_ordered.calls 0 1000000 a0_0 a0_1 true _ A5.out).mono ?_); rintro e w42 ⟨rfl, hb⟩; refine ⟨_, rfl, ?_⟩; have n0_ := bb_ BK106.out hb; have n1_ := A_ (below_step (by repeat (first | (with_reducible first | exact HB.out | apply below_alloc | apply pw_below_drewN | apply below_drew1 | refine below_set ?_ GE106.out) | exact HB.out)) hb); clear BK106; clear HB; have BK106 := n0_; have HB := n1_; clear n0_ n1_; (try clear hb); (try clear hb2); (try clear hk); (try clear hi); have hcz43_0 : w42.cell? ⟨gb106, 0, none⟩ = some (.int .i64 a0_0) := (blk_cell BK106.out 0).trans rfl; have hcz43_1 : w42.cell? ⟨gb106, 1, none⟩ = some (.int .i64 a0_1) := (blk_cell BK106.out 1).trans rfl; have hcz43_2 : w42.cell? ⟨gb106, 2, none⟩ = some (.int .i64 a0_2) := (blk_cell BK106.out 2).trans rfl; have hcz43_3 : w42.cell? ⟨gb106, 3, none⟩ = some (.int .i64 a0_3) := (blk_cell BK106.out 3).trans rfl; have hcz43_4 : w42.cell? ⟨gb106, 4, none⟩ = some (.int .i64 a0_4) := (blk_cell BK106.out 4).trans rfl; have hcz43_5 : w42.cell? ⟨gb106, 5, none⟩ = some (.int .i64 a0_5) := (blk_cell BK106.out 5).trans rfl; have hcz43_6 : w42.cell? ⟨gb106, 6, none⟩ = some (.int .i64 a0_6) := (blk_cell BK106.out 6).trans rfl; have hcz43_7 : w42.cell? ⟨gb106, 7, none⟩ = some (.int .i64 a0_7) := (blk_cell BK106.out 7).trans rfl; have hcz43_8 : w42.cell? ⟨gb106, 8, none⟩ = some (.int .i64 a0_8) := (blk_cell BK106.out 8).trans rfl; have hfz43_0 := blk_frozen BK106.out 0; have hfz43_1 := blk_frozen BK106.out 1; have hfz43_2 := blk_frozen BK106.out 2; have hfz43_3 := blk_frozen BK106.out 3; have hfz43_4 := blk_frozen BK106.out 4; have hfz43_5 := blk_frozen BK106.out 5; have hfz43_6 := blk_frozen BK106.out 6; have hfz43_7 := blk_frozen BK106.out 7; have hfz43_8 := blk_frozen BK106.out 8) | (go_at_call 43; (with_reducible refine (burn_ordered.calls 0 10000 a0_2 a0_3 false _ A7.out).mono ?_); rintro e w44 ⟨rfl, hb⟩; have n0_ := bb_ BK106.out hb; have n1_ := A_ (below_step (by repeat (first | (with_reducible first | exact HB.out | apply below_alloc | apply pw_below_drewN | apply below_drew1 | refine below_set ?_ GE106.out) | exact HB.out)) hb); clear BK106; clear HB; have BK106 := n0_; have HB := n1_; clear n0_ n1_; (try clear hb); (try clear hb2); (try clear hk); (try clear hi)))
    go_meet
    case rel => exact ⟨_, (true), (by first | rfl | (simp; done) | (simp [*]; done)), H', ⟨by first | omega | exact Nat.le_refl _⟩, ⟨by (with_reducible repeat (first | refine blk_drewN ?_ _ | refine blk_drew ?_ | refine blk_alloc ?_ _)); exact BK106.out⟩, ⟨by repeat (first | (with_reducible first | exact HB.out | apply below_alloc | apply pw_below_drewN | apply below_drew1 | refine below_set ?_ GE106.out) | exact HB.out)⟩⟩
  ·
   replace c6 := Bool.eq_false_iff.mpr c6
   subst c6
   have H1 : (burn_Check.j0 k l1 true) = some r := by rw [if_neg (show ¬ (false = true) by decide)] at H; exact H
   clear H
   have H := H1
   clear H1
   have H' := A_ H
   clear H
   have hcz45_0 : w4.cell? ⟨gb106, 0, none⟩ = some (.int .i64 a0_0) := (blk_cell BK106.out 0).trans rfl
   have hcz45_1 : w4.cell? ⟨gb106, 1, none⟩ = some (.int .i64 a0_1) := (blk_cell BK106.out 1).trans rfl
   have hcz45_2 : w4.cell? ⟨gb106, 2, none⟩ = some (.int .i64 a0_2) := (blk_cell BK106.out 2).trans rfl
   have hcz45_3 : w4.cell? ⟨gb106, 3, none⟩ = some (.int .i64 a0_3) := (blk_cell BK106.out 3).trans rfl
   have hcz45_4 : w4.cell? ⟨gb106, 4, none⟩ = some (.int .i64 a0_4) := (blk_cell BK106.out 4).trans rfl
   have hcz45_5 : w4.cell? ⟨gb106, 5, none⟩ = some (.int .i64 a0_5) := (blk_cell BK106.out 5).trans rfl
   have hcz45_6 : w4.cell? ⟨gb106, 6, none⟩ = some (.int .i64 a0_6) := (blk_cell BK106.out 6).trans rfl
   have hcz45_7 : w4.cell? ⟨gb106, 7, none⟩ = some (.int .i64 a0_7) := (blk_cell BK106.out 7).trans rfl
   have hcz45_8 : w4.cell? ⟨gb106, 8, none⟩ = some (.int .i64 a0_8) := (blk_cell BK106.out 8).trans rfl
   have hfz45_0 := blk_frozen BK106.out 0
   have hfz45_1 := blk_frozen BK106.out 1
   have hfz45_2 := blk_frozen BK106.out 2
   have hfz45_3 := blk_frozen BK106.out 3
   have hfz45_4 := blk_frozen BK106.out 4
   have hfz45_5 := blk_frozen BK106.out 5
   have hfz45_6 := blk_frozen BK106.out 6
   have hfz45_7 := blk_frozen BK106.out 7
   have hfz45_8 := blk_frozen BK106.out 8
   go_wp2_with (first | ((with_reducible refine gate_callee (f := 43) rfl ?_); refine goesL_ (some 8) rfl rfl Tryd.func43 (by kernel_rfl) rfl #[.int .i64 0, .int .i64 1000000, .agg #[.int .i64 a0_0, .int .i64 a0_1]] rfl (by (try simp only [List.map_toArray, List.map_cons, List.map_nil]); first | done | rfl | (simp only [List.length_drop, List.length_take]; rfl)) ?_; (with_reducible refine (burn_ordered.calls 0 1000000 a0_0 a0_1 false _ A5.out).mono ?_); rintro e w46 ⟨rfl, hb⟩; refine ⟨_, rfl, ?_⟩; have n0_ := bb_ BK106.out hb; have n1_ := A_ (below_step (by repeat (first | (with_reducible first | exact HB.out | apply below_alloc | apply pw_below_drewN | apply below_drew1 | refine below_set ?_ GE106.out) | exact HB.out)) hb); clear BK106; clear HB; have BK106 := n0_; have HB := n1_; clear n0_ n1_; (try clear hb); (try clear hb2); (try clear hk); (try clear hi)))
   go_meet
   case rel => exact ⟨_, (true), (by first | rfl | (simp; done) | (simp [*]; done)), H', ⟨by first | omega | exact Nat.le_refl _⟩, ⟨by (with_reducible repeat (first | refine blk_drewN ?_ _ | refine blk_drew ?_ | refine blk_alloc ?_ _)); exact BK106.out⟩, ⟨by repeat (first | (with_reducible first | exact HB.out | apply below_alloc | apply pw_below_drewN | apply below_drew1 | refine below_set ?_ GE106.out) | exact HB.out)⟩⟩
 case rest =>
  clear HC3
  try clear c1
  try clear p2
  try clear c3
  try clear c4
  try clear c6
  try clear c8
  try clear c10
  try clear c12
  try clear c34
  try clear c43
  try clear hcz14_0
  try clear hcz14_1
  try clear hcz14_2
  try clear hcz14_3
  try clear hcz14_4
  try clear hcz14_5
  try clear hcz14_6
  try clear hcz14_7
  try clear hcz14_8
  try clear hcz16_0
  try clear hcz16_1
  try clear hcz16_2
  try clear hcz16_3
  try clear hcz16_4
  try clear hcz16_5
  try clear hcz16_6
  try clear hcz16_7
  try clear hcz16_8
  try clear hcz18_0
  try clear hcz18_1
  try clear hcz18_2
  try clear hcz18_3
  try clear hcz18_4
  try clear hcz18_5
  try clear hcz18_6
  try clear hcz18_7
  try clear hcz18_8
  try clear hcz20_0
  try clear hcz20_1
  try clear hcz20_2
  try clear hcz20_3
  try clear hcz20_4
  try clear hcz20_5
  try clear hcz20_6
  try clear hcz20_7
  try clear hcz20_8
  try clear hcz22_0
  try clear hcz22_1
  try clear hcz22_2
  try clear hcz22_3
  try clear hcz22_4
  try clear hcz22_5
  try clear hcz22_6
  try clear hcz22_7
  try clear hcz22_8
  try clear hcz27_0
  try clear hcz27_1
  try clear hcz27_2
  try clear hcz27_3
  try clear hcz27_4
  try clear hcz27_5
  try clear hcz27_6
  try clear hcz27_7
  try clear hcz27_8
  try clear hcz29_0
  try clear hcz29_1
  try clear hcz29_2
  try clear hcz29_3
  try clear hcz29_4
  try clear hcz29_5
  try clear hcz29_6
  try clear hcz29_7
  try clear hcz29_8
  try clear hcz31_0
  try clear hcz31_1
  try clear hcz31_2
  try clear hcz31_3
  try clear hcz31_4
  try clear hcz31_5
  try clear hcz31_6
  try clear hcz31_7
  try clear hcz31_8
  try clear hcz33_0
  try clear hcz33_1
  try clear hcz33_2
  try clear hcz33_3
  try clear hcz33_4
  try clear hcz33_5
  try clear hcz33_6
  try clear hcz33_7
  try clear hcz33_8
  try clear hcz35_0
  try clear hcz35_1
  try clear hcz35_2
  try clear hcz35_3
  try clear hcz35_4
  try clear hcz35_5
  try clear hcz35_6
  try clear hcz35_7
  try clear hcz35_8
  try clear hcz37_0
  try clear hcz37_1
  try clear hcz37_2
  try clear hcz37_3
  try clear hcz37_4
  try clear hcz37_5
  try clear hcz37_6
  try clear hcz37_7
  try clear hcz37_8
  try clear hcz39_0
  try clear hcz39_1
  try clear hcz39_2
  try clear hcz39_3
  try clear hcz39_4
  try clear hcz39_5
  try clear hcz39_6
  try clear hcz39_7
  try clear hcz39_8
  try clear hcz41_0
  try clear hcz41_1
  try clear hcz41_2
  try clear hcz41_3
  try clear hcz41_4
  try clear hcz41_5
  try clear hcz41_6
  try clear hcz41_7
  try clear hcz41_8
  try clear hcz43_0
  try clear hcz43_1
  try clear hcz43_2
  try clear hcz43_3
  try clear hcz43_4
  try clear hcz43_5
  try clear hcz43_6
  try clear hcz43_7
  try clear hcz43_8
  try clear hcz45_0
  try clear hcz45_1
  try clear hcz45_2
  try clear hcz45_3
  try clear hcz45_4
  try clear hcz45_5
  try clear hcz45_6
  try clear hcz45_7
  try clear hcz45_8
  try clear hfz14_0
  try clear hfz14_1
  try clear hfz14_2
  try clear hfz14_3
  try clear hfz14_4
  try clear hfz14_5
  try clear hfz14_6
  try clear hfz14_7
  try clear hfz14_8
  try clear hfz16_0
  try clear hfz16_1
  try clear hfz16_2
  try clear hfz16_3
  try clear hfz16_4
  try clear hfz16_5
  try clear hfz16_6
  try clear hfz16_7
  try clear hfz16_8
  try clear hfz18_0
  try clear hfz18_1
  try clear hfz18_2
  try clear hfz18_3
  try clear hfz18_4
  try clear hfz18_5
  try clear hfz18_6
  try clear hfz18_7
  try clear hfz18_8
  try clear hfz20_0
  try clear hfz20_1
  try clear hfz20_2
  try clear hfz20_3
  try clear hfz20_4
  try clear hfz20_5
  try clear hfz20_6
  try clear hfz20_7
  try clear hfz20_8
  try clear hfz22_0
  try clear hfz22_1
  try clear hfz22_2
  try clear hfz22_3
  try clear hfz22_4
  try clear hfz22_5
  try clear hfz22_6
  try clear hfz22_7
  try clear hfz22_8
  try clear hfz27_0
  try clear hfz27_1
  try clear hfz27_2
  try clear hfz27_3
  try clear hfz27_4
  try clear hfz27_5
  try clear hfz27_6
  try clear hfz27_7
  try clear hfz27_8
  try clear hfz29_0
  try clear hfz29_1
  try clear hfz29_2
  try clear hfz29_3
  try clear hfz29_4
  try clear hfz29_5
  try clear hfz29_6
  try clear hfz29_7
  try clear hfz29_8
  try clear hfz31_0
  try clear hfz31_1
  try clear hfz31_2
  try clear hfz31_3
  try clear hfz31_4
  try clear hfz31_5
  try clear hfz31_6
  try clear hfz31_7
  try clear hfz31_8
  try clear hfz33_0
  try clear hfz33_1
  try clear hfz33_2
  try clear hfz33_3
  try clear hfz33_4
  try clear hfz33_5
  try clear hfz33_6
  try clear hfz33_7
  try clear hfz33_8
  try clear hfz35_0
  try clear hfz35_1
  try clear hfz35_2
  try clear hfz35_3
  try clear hfz35_4
  try clear hfz35_5
  try clear hfz35_6
  try clear hfz35_7
  try clear hfz35_8
  try clear hfz37_0
  try clear hfz37_1
  try clear hfz37_2
  try clear hfz37_3
  try clear hfz37_4
  try clear hfz37_5
  try clear hfz37_6
  try clear hfz37_7
  try clear hfz37_8
  try clear hfz39_0
  try clear hfz39_1
  try clear hfz39_2
  try clear hfz39_3
  try clear hfz39_4
  try clear hfz39_5
  try clear hfz39_6
  try clear hfz39_7
  try clear hfz39_8
  try clear hfz41_0
  try clear hfz41_1
  try clear hfz41_2
  try clear hfz41_3
  try clear hfz41_4
  try clear hfz41_5
  try clear hfz41_6
  try clear hfz41_7
  try clear hfz41_8
  try clear hfz43_0
  try clear hfz43_1
  try clear hfz43_2
  try clear hfz43_3
  try clear hfz43_4
  try clear hfz43_5
  try clear hfz43_6
  try clear hfz43_7
  try clear hfz43_8
  try clear hfz45_0
  try clear hfz45_1
  try clear hfz45_2
  try clear hfz45_3
  try clear hfz45_4
  try clear hfz45_5
  try clear hfz45_6
  try clear hfz45_7
  try clear hfz45_8
  obtain ⟨kq, x5_2, rfl, HA, HJ2, BK106, HB⟩ := hcut
  cases kq with
  | zero => exact absurd HA.out (by simp [burn_Check.j0])
  | succ kj2 =>
   have H := HA.out
   clear HA
   simp only [burn_Check.j0] at H
   by_cases c47 : x5_2 = true
   ·
    subst c47
    have H1 : (some 40) = some r := by rw [if_pos rfl] at H; exact H
    clear H
    have H := H1
    clear H1
    obtain rfl := Option.some.inj H
    go_wp2
    go_ret
    exact ⟨by first | rfl | (simp [errW_none, errW_some] <;> rfl) | (simp [*, errW_none, errW_some] <;> rfl), by repeat (first | (with_reducible first | exact HB.out | apply below_alloc | apply pw_below_drewN | apply below_drew1 | refine below_set ?_ GE106.out) | exact HB.out)⟩
   ·
    replace c47 := Bool.eq_false_iff.mpr c47
    subst c47
    have H1 : (if (l1.length : Int) > 120 then (some 41) else ((burn_in.f 0 1000000 l1).bind fun t115 => (if t115 = true then (some 0) else (some 41)))) = some r := by rw [if_neg (show ¬ (false = true) by decide)] at H; exact H
    clear H
    have H := H1
    clear H1
    by_cases c48 : (l1.length : Int) > 120
    ·
     rw [if_pos c48] at H
     have c48b0 : decide (120 < (l1.length : Int)) = true := decide_eq_true c48
     have c48b1 : decide (120 < l1.length) = true := decide_eq_true (by omega)
     clear c48
     obtain rfl := Option.some.inj H
     go_wp2
     go_ret
     exact ⟨by first | rfl | (simp [errW_none, errW_some] <;> rfl) | (simp [*, errW_none, errW_some] <;> rfl), by repeat (first | (with_reducible first | exact HB.out | apply below_alloc | apply pw_below_drewN | apply below_drew1 | refine below_set ?_ GE106.out) | exact HB.out)⟩
    ·
     rw [if_neg c48] at H
     have c48b0 : decide (120 < (l1.length : Int)) = false := decide_eq_false c48
     have c48b1 : decide (120 < l1.length) = false := decide_eq_false (by omega)
     clear c48
     replace H := Option.bind_eq_some_iff.mp H
     obtain ⟨t115, A490, H⟩ := H
     try dsimp only at H
     have A49 := A_ A490
     clear A490
     by_cases c50 : t115 = true
     ·
      subst c50
      have H1 : (some 0) = some r := by rw [if_pos rfl] at H; exact H
      clear H
      have H := H1
      clear H1
      obtain rfl := Option.some.inj H
      go_wp2_with (first | (go_at_call 27; (with_reducible refine (burn_in.calls 0 1000000 _ _ l1 true _ ?side1 ?side2 A49.out).mono ?_); (case side1 => repeat (first | exact (Kd.C_below HR1.out HB.out) | (with_reducible refine Kd.C_alloc ?_ _) | (with_reducible refine Kd.C_drewN ?_ _) | (with_reducible refine Kd.C_drew ?_))); (case side2 => exact HC1.out); rintro e w51 ⟨rfl, hb⟩; have n0_ := bb_ BK106.out hb; have n1_ := A_ (below_step (by repeat (first | (with_reducible first | exact HB.out | apply below_alloc | apply pw_below_drewN | apply below_drew1 | refine below_set ?_ GE106.out) | exact HB.out)) hb); clear BK106; clear HB; have BK106 := n0_; have HB := n1_; clear n0_ n1_; (try clear hb); (try clear hb2); (try clear hk); (try clear hi)))
      go_ret
      exact ⟨by first | rfl | (simp [errW_none, errW_some] <;> rfl) | (simp [*, errW_none, errW_some] <;> rfl), by repeat (first | (with_reducible first | exact HB.out | apply below_alloc | apply pw_below_drewN | apply below_drew1 | refine below_set ?_ GE106.out) | exact HB.out)⟩
     ·
      replace c50 := Bool.eq_false_iff.mpr c50
      subst c50
      have H1 : (some 41) = some r := by rw [if_neg (show ¬ (false = true) by decide)] at H; exact H
      clear H
      have H := H1
      clear H1
      obtain rfl := Option.some.inj H
      go_wp2_with (first | (go_at_call 27; (with_reducible refine (burn_in.calls 0 1000000 _ _ l1 false _ ?side1 ?side2 A49.out).mono ?_); (case side1 => repeat (first | exact (Kd.C_below HR1.out HB.out) | (with_reducible refine Kd.C_alloc ?_ _) | (with_reducible refine Kd.C_drewN ?_ _) | (with_reducible refine Kd.C_drew ?_))); (case side2 => exact HC1.out); rintro e w52 ⟨rfl, hb⟩; have n0_ := bb_ BK106.out hb; have n1_ := A_ (below_step (by repeat (first | (with_reducible first | exact HB.out | apply below_alloc | apply pw_below_drewN | apply below_drew1 | refine below_set ?_ GE106.out) | exact HB.out)) hb); clear BK106; clear HB; have BK106 := n0_; have HB := n1_; clear n0_ n1_; (try clear hb); (try clear hb2); (try clear hk); (try clear hi)))
      go_ret
      exact ⟨by first | rfl | (simp [errW_none, errW_some] <;> rfl) | (simp [*, errW_none, errW_some] <;> rfl), by repeat (first | (with_reducible first | exact HB.out | apply below_alloc | apply pw_below_drewN | apply below_drew1 | refine below_set ?_ GE106.out) | exact HB.out)⟩
end Go.Proofs.YtaijhbliagjeaaaDoor.PC2
namespace Go.Proofs.YtaijhbliagjeaaaDoor.PC2
open Go.RowKit Go.Proofs.YtaijhbliagjeaaaDoorW.PrintWords Go.Proofs.YtaijhbliagjeaaaDoorW.PrintLast Go.Proofs.YtaijhbliagjeaaaDoorW.PrintMore
attribute [local go_sem] max2_int min2_int max_two min_two max_three min_three max_four min_four -- for this text's walks alone
set_option linter.unusedVariables false
set_option linter.unusedSimpArgs false
end Go.Proofs.YtaijhbliagjeaaaDoor.PC2
namespace Go.Proofs.YtaijhbliagjeaaaDoor
open Go.RowKit Go.Proofs.YtaijhbliagjeaaaDoorW.PrintWords Go.Proofs.YtaijhbliagjeaaaDoorW.PrintMore
attribute [local go_sem] max2_int min2_int max_two min_two max_three min_three max_four min_four
set_option linter.unusedVariables false
set_option linter.unusedSimpArgs false
theorem addr_add_add (a : Addr) (m n : Nat) : (a.add m).add n = a.add (m + n) := by
  unfold Addr.add
  by_cases h1 : m = 0 <;> by_cases h2 : n = 0 <;> simp [h1, h2]
  omega
theorem blk_new_at (w : World) (o : Obj) {k : Nat} (h : w.heap.size = k) : (w.alloc o).heap[k]? = some o := h ▸ blk_new w o
/-- The table burn.ends, as_ its initialiser lays it. -/
def tabC : Array Value := #[.func (.func 62) #[] #[], .func (.func 63) #[] #[], .func (.func 64) #[] #[], .func (.func 65) #[] #[]]
def GlobOK (w : World) : Prop := ∃ t fr, w.heap[0]? = some (.cells tabC t fr)
theorem GlobOK.below {w w1 : World} (h : GlobOK w) (hb : Below w.heap.size w w1) : GlobOK w1 := by
  obtain ⟨t, fr, h⟩ := h
  exact ⟨t, fr, blk_below h hb⟩
/-! ### the four functions of the table -/
theorem ends1_calls (a b : Int) (w : World) : Calls Tryd.prog 62 #[.agg #[.int .i64 a, .int .i64 b]] w fun e w' => e = .returned (.int .i64 a) ∧ Below w.heap.size w w' := by
  go_enter Tryd.func62, Tryd.ntmps62
  go_wp2
  go_ret
  exact ⟨rfl, below_alloc (Below.refl _ _) _⟩
theorem ends3_calls (a b : Int) (w : World) : Calls Tryd.prog 64 #[.agg #[.int .i64 a, .int .i64 b]] w fun e w' => e = .returned (.int .i64 b) ∧ Below w.heap.size w w' := by
  go_enter Tryd.func64, Tryd.ntmps64
  go_wp2
  go_ret
  exact ⟨rfl, below_alloc (Below.refl _ _) _⟩
theorem ends2_calls (a : Int) (w : World) : Calls Tryd.prog 63 #[.int .i64 a] w fun e w' => e = .returned (.int .i64 a) ∧ Below w.heap.size w w' := by
  go_enter Tryd.func63, Tryd.ntmps63
  go_wp2
  go_ret
  exact ⟨rfl, Below.refl _ _⟩
theorem ends4_calls (a : Int) (h0 : 0 ≤ a) (h1 : a ≤ 1000) (w : World) : Calls Tryd.prog 65 #[.int .i64 a] w fun e w' => e = .returned (.int .i64 (-a)) ∧ Below w.heap.size w w' := by
  go_enter Tryd.func65, Tryd.ntmps65
  go_wp2
  go_ret
  exact ⟨rfl, Below.refl _ _⟩
/-- which of the two ends: the functions, and what they tell -/
def ofF (k : Bool) : Nat := if k then 64 else 62
def offF (k : Bool) : Nat := if k then 65 else 63
def sel (k : Bool) (a b : Int) : Int := if k then b else a
def sgn (k : Bool) (a : Int) : Int := if k then -a else a
theorem of_calls (k : Bool) (a b : Int) (w : World) : Calls Tryd.prog (ofF k) #[.agg #[.int .i64 a, .int .i64 b]] w fun e w' => e = .returned (.int .i64 (sel k a b)) ∧ Below w.heap.size w w' := by
  cases k
  · exact ends1_calls a b w
  · exact ends3_calls a b w
theorem off_calls (k : Bool) (a : Int) (h0 : 0 ≤ a) (h1 : a ≤ 1000) (w : World) : Calls Tryd.prog (offF k) #[.int .i64 a] w fun e w' => e = .returned (.int .i64 (sgn k a)) ∧ Below w.heap.size w w' := by
  cases k
  · exact ends2_calls a w
  · exact ends4_calls a h0 h1 w
theorem of_enters (k : Bool) : ∀ args w, (callFunc (ofF k) args).run Tryd.prog w = .ok (.enter (ofF k) args) w := by
  cases k
  · exact enters_of Tryd.func62 (by kernel_rfl) rfl
  · exact enters_of Tryd.func64 (by kernel_rfl) rfl
theorem off_enters (k : Bool) : ∀ args w, (callFunc (offF k) args).run Tryd.prog w = .ok (.enter (offF k) args) w := by
  cases k
  · exact enters_of Tryd.func63 (by kernel_rfl) rfl
  · exact enters_of Tryd.func65 (by kernel_rfl) rfl
/-- what is missing at an end -/
def missF (k : Bool) (b0 b1 y dr : Int) : Int := mx 0 (sel k b0 b1 - y - sgn k dr)
set_option maxHeartbeats 2000000 in
theorem heat1_calls (k : Bool) (B0 B1 B2 B3 : Nat) (b0 b1 dr i j y : Int) (ad : Addr) (n c : Nat) (w : World)
    (h0 : w.cell? ⟨B0, 0, none⟩ = some (.func (.func (ofF k)) #[] #[])) (h1 : w.cell? ⟨B0, 1, none⟩ = some (.func (.func (offF k)) #[] #[]))
    (h2 : w.cell? ⟨B1, 0, none⟩ = some (.int .i64 b0)) (h3 : w.cell? ⟨B1, 1, none⟩ = some (.int .i64 b1)) (h4 : w.cell? ⟨B1, 8, none⟩ = some (.int .i64 dr)) (h5 : w.cell? ⟨B1, 9, none⟩ = some (.slice (some ad) n c))
    (h6 : w.cell? ⟨B2, 0, none⟩ = some (.int .i64 i)) (h7 : w.cell? ⟨B3, 0, none⟩ = some (.int .i64 j)) (h8 : w.cell? (ad.add (i + j).toNat) = some (.int .i64 y))
    (i0 : 0 ≤ i) (i1 : i ≤ 1000000) (j0 : 0 ≤ j) (j1 : j ≤ 1000) (ij : i + j < n) (q0 : 0 ≤ b0) (q1 : b0 ≤ 1000000) (q2 : 0 ≤ b1) (q3 : b1 ≤ 1000000) (d0 : 0 ≤ dr) (d1 : dr ≤ 1000) (y0 : 0 ≤ y) (y1 : y ≤ 1000000) :
    Calls Tryd.prog 36 #[.pointer (some ⟨B0, 0, none⟩), .pointer (some ⟨B1, 0, none⟩), .pointer (some ⟨B2, 0, none⟩), .pointer (some ⟨B3, 0, none⟩)] w fun e w' => e = .returned (.int .i64 (missF k b0 b1 y dr)) ∧ Below w.heap.size w w' := by
  have e1 := of_enters k
  have e2 := off_enters k
  have l0 := World.block_lt_of_cell? w _ h0
  have l1 := World.block_lt_of_cell? w _ h2
  have l2 := World.block_lt_of_cell? w _ h6
  have l3 := World.block_lt_of_cell? w _ h7
  have l4 := World.block_lt_of_cell? w _ h8
  simp only at l0 l1 l2 l3
  have s0 : 0 ≤ sel k b0 b1 ∧ sel k b0 b1 ≤ 1000000 := by cases k <;> simp [sel] <;> omega
  have g0 : -1000 ≤ sgn k dr ∧ sgn k dr ≤ 1000 := by cases k <;> simp [sgn] <;> omega
  have ij0 : 0 ≤ i + j := by omega
  have wr1 : IntKind.i64.wrap (i + j) = i + j := IntWalk.i64_in _ (by omega)
  have wr2 : IntKind.i64.wrap (sel k b0 b1 - y) = sel k b0 b1 - y := IntWalk.i64_in _ (by omega)
  have wr3 : IntKind.i64.wrap (sel k b0 b1 - y - sgn k dr) = sel k b0 b1 - y - sgn k dr := IntWalk.i64_in _ (by omega)
  go_enter Tryd.func36, Tryd.ntmps36
  go_wp2_with fail
  go_region_held3 (fun w' => w'.cell? ⟨B0, 0, none⟩ = some (.func (.func (ofF k)) #[] #[]) ∧ w'.cell? ⟨B0, 1, none⟩ = some (.func (.func (offF k)) #[] #[])
      ∧ w'.cell? ⟨B1, 0, none⟩ = some (.int .i64 b0) ∧ w'.cell? ⟨B1, 1, none⟩ = some (.int .i64 b1) ∧ w'.cell? ⟨B1, 8, none⟩ = some (.int .i64 dr) ∧ w'.cell? ⟨B1, 9, none⟩ = some (.slice (some ad) n c)
      ∧ w'.cell? ⟨B2, 0, none⟩ = some (.int .i64 i) ∧ w'.cell? ⟨B3, 0, none⟩ = some (.int .i64 j) ∧ w'.cell? (ad.add (i + j).toNat) = some (.int .i64 y))
    (first
      | go_keep
      | (go_split_ands; refine ⟨?_, ?_, ?_, ?_, ?_, ?_, ?_, ?_, ?_⟩ <;> (first | exact pw_cell_below hb2 (by assumption) | exact pw_cell_below hb1 (by assumption))))
    ((first
      | (go_at_fn (ofF k); (with_reducible refine (of_calls k _ _ _).mono ?_); rintro e w1 ⟨rfl, hb1⟩)
      | (go_at_fn (offF k); (with_reducible refine (off_calls k _ d0 d1 _).mono ?_); rintro e w2 ⟨rfl, hb2⟩)))
  have hB := below_step (below_step (below_drew (Below.refl w.heap.size w)) hb1) hb2
  clear hb1 hb2
  have HB := Aside0.mk hB
  clear hB
  by_cases hm : sgn k dr < sel k b0 b1 - y
  · go_wp2
    go_ret
    exact ⟨by simp only [Array.getD]; unfold missF mx; rw [if_pos (by omega)]; rfl, HB.out⟩
  · go_wp2
    go_ret
    exact ⟨by simp only [Array.getD]; unfold missF mx; rw [if_neg (by omega)]; rfl, HB.out⟩
end Go.Proofs.YtaijhbliagjeaaaDoor
namespace Go.Proofs.YtaijhbliagjeaaaDoor
open Go.RowKit Go.Proofs.YtaijhbliagjeaaaDoorW.PrintWords
attribute [local go_sem] Oper.semAt_some
set_option linter.unusedVariables false
set_option linter.unusedSimpArgs false
/-- all whole numbers from a on, so many -/
def upFrom (a : Int) (n : Nat) : List Int := (List.range n).map fun (k : Nat) => a + (k : Int)
theorem upFrom_succ (a : Int) (n : Nat) : upFrom a (n + 1) = upFrom a n ++ [a + n] := by simp [upFrom, List.range_succ]
/-- a lag that may be -/
abbrev LagT (g0 g1 : Int) : Type := { x : Int // g0 ≤ x ∧ x ≤ g1 }
def Kp8 (g : Nat) (W W' : World) : Prop := W'.heap[g]? = W.heap[g]?
def ductC (b0 b1 f0 f1 j0 j1 g0 g1 dr : Int) (A : Option Addr) (n c : Nat) (sc : Int) : Array Value :=
  #[.int .i64 b0, .int .i64 b1, .int .i64 f0, .int .i64 f1, .int .i64 j0, .int .i64 j1, .int .i64 g0, .int .i64 g1, .int .i64 dr, .slice A n c, .int .i64 sc]
theorem lags_calls (b0 b1 f0 f1 j0 j1 g0 g1 dr : Int) (A : Option Addr) (n c : Nat) (sc : Int) (w : World) :
    Calls Tryd.prog 23 #[.agg (ductC b0 b1 f0 f1 j0 j1 g0 g1 dr A n c sc)] w fun e w' => e = .returned (.func (.func 35) #[] #[.pointer (some ⟨w.heap.size, 0, none⟩)]) ∧ w' = w.alloc (.cells (ductC b0 b1 f0 f1 j0 j1 g0 g1 dr A n c sc) 52) := by
  unfold ductC
  go_enter Tryd.func23, Tryd.ntmps23
  go_wp2
  go_ret
  exact ⟨rfl, rfl⟩
set_option maxRecDepth 100000 in
set_option maxHeartbeats 2000000 in
theorem lags_stops (b0 b1 f0 f1 j0 j1 g0 g1 dr : Int) (A : Option Addr) (n c : Nat) (sc : Int) (hg0 : 0 ≤ g0) (hg1 : g0 ≤ g1) (hg2 : g1 ≤ 30) (F : Fence) (m : Nat) (hF : F.fn 35) (hro : F.round = none) (hm : 1 ≤ m) (B : Nat) (w : World)
    (hb : w.heap[B]? = some (.cells (ductC b0 b1 f0 f1 j0 j1 g0 g1 dr A n c sc) 52)) :
    SeqStopsK F m Tryd.prog 35 #[.pointer (some ⟨B, 0, none⟩)] (fun x : LagT g0 g1 => #[.int .i64 x.1]) (Kp8 B) (fun xs => xs.map (·.1) = upFrom g0 (g1 - g0 + 1).toNat) (fun _ => True) 31 w := by
  intro l J Jx W hW hJ hJx hY h0
  have hB : W.heap[B]? = some (.cells (ductC b0 b1 f0 f1 j0 j1 g0 g1 dr A n c sc) 52) := blk_below hb hW
  have c6 : W.cell? ⟨B, 6, none⟩ = some (.int .i64 g0) := (blk_cell hB 6).trans rfl
  have c7 : W.cell? ⟨B, 7, none⟩ = some (.int .i64 g1) := (blk_cell hB 7).trans rfl
  have HBB := Aside0.mk hB
  clear hB hb hW
  refine callsIn_of_wp Tryd.func35 rfl hF ?_ hro
  simp only [Tryd.ntmps35, List.size_toArray, List.length_cons, List.length_nil, Nat.reduceAdd, Nat.reduceSub, Array.replicate_succ, Array.replicate_zero, List.push_toArray, List.append_toArray, List.nil_append, List.cons_append]
  gi_wp2
  clear c6 c7
  gi_loopw [14] (fun p wr => ∃ (k : Nat) (pre : List (LagT g0 g1)), p = .int .i64 k ∧ (k : Int) ≤ g1 - g0 + 1 ∧ Aside0 (pre.map (·.1) = upFrom g0 k) ∧ J pre wr ∧ Aside0 (wr.heap[B]? = some (.cells (ductC b0 b1 f0 f1 j0 j1 g0 g1 dr A n c sc) 52)))
    (fun p wr => 31 - (intOf p).toNat)
  case atStart => exact ⟨0, [], rfl, by omega, ⟨rfl⟩, h0, HBB⟩
  case round =>
    clear h0 HBB
    obtain ⟨k, pre, rfl, hk, HP, hJs, HBB⟩ := hrel
    by_cases hlt : (k : Int) < g1 - g0 + 1
    · have c6 : wr.cell? ⟨B, 6, none⟩ = some (.int .i64 g0) := (blk_cell HBB.out 6).trans rfl
      obtain ⟨fn, tmps, assign, body, hy, hR⟩ := hY pre ⟨g0 + k, by omega, by omega⟩ wr hJs (by have := congrArg List.length HP.out; simp [upFrom] at this; omega)
      gi_wp2
      refine hR.mono ?_
      rintro e W3 (⟨rfl, hJ3, hk3⟩ | ⟨rfl, hJx3⟩)
      · gi_wp2
        go_roundw
        case rel => exact ⟨k + 1, _, by go_num, by omega, ⟨by rw [upFrom_succ, List.map_append, HP.out]; rfl⟩, hJ3, ⟨hk3.trans HBB.out⟩⟩
        case measure => simp [intOf]; omega
      · gi_wp2
        refine bodyPost_ret (results_none rfl _ _ _) rfl ?_
        exact ⟨⟨_, rfl⟩, .inr ⟨_, trivial, hJx3⟩⟩
    · have HK := Aside0.mk (show (k : Int) = g1 - g0 + 1 by omega)
      gi_wp2
      go_end0
      exact ⟨⟨_, rfl⟩, .inl ⟨pre, by rw [show (g1 - g0 + 1).toNat = k from by have := HK.out; omega]; exact HP.out, hJs⟩⟩
end Go.Proofs.YtaijhbliagjeaaaDoor
namespace Go.Proofs.YtaijhbliagjeaaaDoor
open Go.RowKit Go.Proofs.YtaijhbliagjeaaaDoorW.PrintWords Go.Proofs.YtaijhbliagjeaaaDoorW.PrintMore Go.Proofs.YtaijhbliagjeaaaDoor.PC2
attribute [local go_sem] max2_int min2_int max_two min_two max_three min_three max_four min_four
set_option linter.unusedVariables false
set_option linter.unusedSimpArgs false
def secS (g1 n : Int) : Int := mx 0 (wrap64 (n - g1))
set_option maxHeartbeats 4000000 in
set_option maxRecDepth 100000 in
theorem open_calls (k : Nat) (b0 b1 f0 f1 j0 j1 g0 g1 dr : Int) (A : Option Addr) (c : Nat) (l : List Int) (e0 : Int) (w : World) (hr : Kd.C (Kd.int .i64) w A l.length l) (hc : l.length ≤ c) (h : burn_Check.f k b0 b1 f0 f1 j0 j1 g0 g1 dr l = some e0) :
    Calls Tryd.prog 22 #[.agg #[.int .i64 b0, .int .i64 b1, .int .i64 f0, .int .i64 f1, .int .i64 j0, .int .i64 j1, .int .i64 g0, .int .i64 g1, .int .i64 dr], .slice A l.length c] w
      fun e w' => e = .returned (.tuple #[.agg (ductC b0 b1 f0 f1 j0 j1 g0 g1 dr A l.length c (secS g1 l.length)), .int .i64 e0]) ∧ Below w.heap.size w w' := by
  have H1 := fun W hr => burn_Check.calls k b0 b1 f0 f1 j0 j1 g0 g1 dr A c l e0 W hr hc h
  have HCK := Aside0.mk H1
  have HR := Aside0.mk hr
  clear H1 hr h
  go_enter Tryd.func22, Tryd.ntmps22
  go_wp2_with fail
  obtain ⟨W, hW⟩ : ∃ W, (w.alloc (.cells #[.int .i64 b0, .int .i64 b1, .int .i64 f0, .int .i64 f1, .int .i64 j0, .int .i64 j1, .int .i64 g0, .int .i64 g1, .int .i64 dr] 25)).alloc (.cells #[.int .i64 0, .int .i64 0, .int .i64 0, .int .i64 0, .int .i64 0, .int .i64 0, .int .i64 0, .int .i64 0, .int .i64 0, .slice none 0 0, .int .i64 0] 52) = W := ⟨_, rfl⟩
  rw [hW]
  have hB : Below w.heap.size w W := hW ▸ below_alloc (below_alloc (Below.refl _ w) _) _
  have x2 : W.heap[w.heap.size]? = some (.cells #[.int .i64 b0, .int .i64 b1, .int .i64 f0, .int .i64 f1, .int .i64 j0, .int .i64 j1, .int .i64 g0, .int .i64 g1, .int .i64 dr] 25) := hW ▸ blk_alloc (blk_new _ _) _
  have x4 : W.heap[w.heap.size + 1]? = some (.cells #[.int .i64 0, .int .i64 0, .int .i64 0, .int .i64 0, .int .i64 0, .int .i64 0, .int .i64 0, .int .i64 0, .int .i64 0, .slice none 0 0, .int .i64 0] 52) := hW ▸ blk_new_at _ _ (by simp)
  clear hW
  have hne : w.heap.size + 1 ≠ w.heap.size := by omega
  have hle : w.heap.size ≤ w.heap.size + 1 := by omega
  have hRW := Kd.C_below HR.out hB
  generalize w.heap.size + 1 = B4 at *
  obtain ⟨B2, hB2⟩ : ∃ B, B = w.heap.size := ⟨_, rfl⟩
  rw [← hB2] at x2 hne ⊢
  have HBB := Aside0.mk hB2
  clear hB2
  have c0_ : W.cell? ⟨B2, 0, none⟩ = some (.int .i64 b0) := (blk_cell x2 0).trans rfl
  have e0_ : W.drew.cell? ⟨B2, 0, none⟩ = some (.int .i64 b0) := c0_
  have c1_ : W.cell? ⟨B2, 1, none⟩ = some (.int .i64 b1) := (blk_cell x2 1).trans rfl
  have e1_ : W.drew.cell? ⟨B2, 1, none⟩ = some (.int .i64 b1) := c1_
  have c2_ : W.cell? ⟨B2, 2, none⟩ = some (.int .i64 f0) := (blk_cell x2 2).trans rfl
  have e2_ : W.drew.cell? ⟨B2, 2, none⟩ = some (.int .i64 f0) := c2_
  have c3_ : W.cell? ⟨B2, 3, none⟩ = some (.int .i64 f1) := (blk_cell x2 3).trans rfl
  have e3_ : W.drew.cell? ⟨B2, 3, none⟩ = some (.int .i64 f1) := c3_
  have c4_ : W.cell? ⟨B2, 4, none⟩ = some (.int .i64 j0) := (blk_cell x2 4).trans rfl
  have e4_ : W.drew.cell? ⟨B2, 4, none⟩ = some (.int .i64 j0) := c4_
  have c5_ : W.cell? ⟨B2, 5, none⟩ = some (.int .i64 j1) := (blk_cell x2 5).trans rfl
  have e5_ : W.drew.cell? ⟨B2, 5, none⟩ = some (.int .i64 j1) := c5_
  have c6_ : W.cell? ⟨B2, 6, none⟩ = some (.int .i64 g0) := (blk_cell x2 6).trans rfl
  have e6_ : W.drew.cell? ⟨B2, 6, none⟩ = some (.int .i64 g0) := c6_
  have c7_ : W.cell? ⟨B2, 7, none⟩ = some (.int .i64 g1) := (blk_cell x2 7).trans rfl
  have e7_ : W.drew.cell? ⟨B2, 7, none⟩ = some (.int .i64 g1) := c7_
  have c8_ : W.cell? ⟨B2, 8, none⟩ = some (.int .i64 dr) := (blk_cell x2 8).trans rfl
  have e8_ : W.drew.cell? ⟨B2, 8, none⟩ = some (.int .i64 dr) := c8_
  have X4 := Aside0.mk x4
  have HB := Aside0.mk hB
  have HW := Aside0.mk hRW
  have HNE := Aside0.mk hne
  clear x2 x4 hB hRW hne HR
  obtain ⟨M, hM⟩ : ∃ M, IntKind.i64.wrap ((l.length : Int) - g1) = M := ⟨_, rfl⟩
  have hM' : wrap64 ((l.length : Int) - g1) = M := by unfold wrap64; rw [← IntKind.wrap_i64]; exact hM
  have HM' := Aside0.mk hM'
  clear hM'
  by_cases h0 : 0 < M
  · have hs : secS g1 l.length = M := by unfold secS mx; rw [HM'.out]; exact if_pos h0
    have HS := Aside0.mk hs
    clear hs
    go_region_held3 (fun w' => w'.cell? ⟨B2, 0, none⟩ = some (.int .i64 b0) ∧ w'.cell? ⟨B2, 1, none⟩ = some (.int .i64 b1) ∧ w'.cell? ⟨B2, 2, none⟩ = some (.int .i64 f0) ∧ w'.cell? ⟨B2, 3, none⟩ = some (.int .i64 f1) ∧ w'.cell? ⟨B2, 4, none⟩ = some (.int .i64 j0) ∧ w'.cell? ⟨B2, 5, none⟩ = some (.int .i64 j1) ∧ w'.cell? ⟨B2, 6, none⟩ = some (.int .i64 g0) ∧ w'.cell? ⟨B2, 7, none⟩ = some (.int .i64 g1) ∧ w'.cell? ⟨B2, 8, none⟩ = some (.int .i64 dr))
      (with_reducible first | exact ⟨e0_, e1_, e2_, e3_, e4_, e5_, e6_, e7_, e8_⟩ | exact ⟨pw_cell_below HC.out c0_, pw_cell_below HC.out c1_, pw_cell_below HC.out c2_, pw_cell_below HC.out c3_, pw_cell_below HC.out c4_, pw_cell_below HC.out c5_, pw_cell_below HC.out c6_, pw_cell_below HC.out c7_, pw_cell_below HC.out c8_⟩ | (refine ⟨?_, ?_, ?_, ?_, ?_, ?_, ?_, ?_, ?_⟩ <;> (repeat (refine (World.cell?_setCell_far _ _ _ _ HNE.out).trans ?_)) <;> first | exact pw_cell_below HC.out c0_ | exact pw_cell_below HC.out c1_ | exact pw_cell_below HC.out c2_ | exact pw_cell_below HC.out c3_ | exact pw_cell_below HC.out c4_ | exact pw_cell_below HC.out c5_ | exact pw_cell_below HC.out c6_ | exact pw_cell_below HC.out c7_ | exact pw_cell_below HC.out c8_))
      ((go_at_call 34; refine (HCK.out _ (Kd.C_drew HW.out)).mono ?_; rintro e w2 ⟨rfl, hb⟩; have HC := Aside0.mk (below_step (below_drew (Below.refl _ W)) hb); have y4 := blk_below (blk_drew X4.out) hb; have HB2 := Aside0.mk (below_step (below_drew HB.out) hb); have Y4 := Aside0.mk y4; have d0_ := (blk_cell y4 0).trans rfl; have f0_ := blk_frozen y4 0; have d1_ := (blk_cell y4 1).trans rfl; have f1_ := blk_frozen y4 1; have d2_ := (blk_cell y4 2).trans rfl; have f2_ := blk_frozen y4 2; have d3_ := (blk_cell y4 3).trans rfl; have f3_ := blk_frozen y4 3; have d4_ := (blk_cell y4 4).trans rfl; have f4_ := blk_frozen y4 4; have d5_ := (blk_cell y4 5).trans rfl; have f5_ := blk_frozen y4 5; have d6_ := (blk_cell y4 6).trans rfl; have f6_ := blk_frozen y4 6; have d7_ := (blk_cell y4 7).trans rfl; have f7_ := blk_frozen y4 7; have d8_ := (blk_cell y4 8).trans rfl; have f8_ := blk_frozen y4 8; have d9_ := (blk_cell y4 9).trans rfl; have f9_ := blk_frozen y4 9; have d10_ := (blk_cell y4 10).trans rfl; have f10_ := blk_frozen y4 10; clear y4 hb))
    all_goals
      go_wp2
      refine bodyPost_ret (results_ct rfl _ _ B4 52 #[.int .i64 b0, .int .i64 b1, .int .i64 f0, .int .i64 f1, .int .i64 j0, .int .i64 j1, .int .i64 g0, .int .i64 g1, .int .i64 dr, .slice A l.length c, .int .i64 M] (0, 0) _ rfl (by
        refine blk_put (cs := #[.int .i64 b0, .int .i64 b1, .int .i64 f0, .int .i64 f1, .int .i64 j0, .int .i64 j1, .int .i64 g0, .int .i64 g1, .int .i64 dr, .slice A l.length c, .int .i64 0]) ?_ 10 _ rfl
        refine blk_put (cs := #[.int .i64 b0, .int .i64 b1, .int .i64 f0, .int .i64 f1, .int .i64 j0, .int .i64 j1, .int .i64 g0, .int .i64 g1, .int .i64 dr, .slice none 0 0, .int .i64 0]) ?_ 9 _ rfl
        refine blk_put (cs := #[.int .i64 b0, .int .i64 b1, .int .i64 f0, .int .i64 f1, .int .i64 j0, .int .i64 j1, .int .i64 g0, .int .i64 g1, .int .i64 0, .slice none 0 0, .int .i64 0]) ?_ 8 _ rfl
        refine blk_put (cs := #[.int .i64 b0, .int .i64 b1, .int .i64 f0, .int .i64 f1, .int .i64 j0, .int .i64 j1, .int .i64 g0, .int .i64 0, .int .i64 0, .slice none 0 0, .int .i64 0]) ?_ 7 _ rfl
        refine blk_put (cs := #[.int .i64 b0, .int .i64 b1, .int .i64 f0, .int .i64 f1, .int .i64 j0, .int .i64 j1, .int .i64 0, .int .i64 0, .int .i64 0, .slice none 0 0, .int .i64 0]) ?_ 6 _ rfl
        refine blk_put (cs := #[.int .i64 b0, .int .i64 b1, .int .i64 f0, .int .i64 f1, .int .i64 j0, .int .i64 0, .int .i64 0, .int .i64 0, .int .i64 0, .slice none 0 0, .int .i64 0]) ?_ 5 _ rfl
        refine blk_put (cs := #[.int .i64 b0, .int .i64 b1, .int .i64 f0, .int .i64 f1, .int .i64 0, .int .i64 0, .int .i64 0, .int .i64 0, .int .i64 0, .slice none 0 0, .int .i64 0]) ?_ 4 _ rfl
        refine blk_put (cs := #[.int .i64 b0, .int .i64 b1, .int .i64 f0, .int .i64 0, .int .i64 0, .int .i64 0, .int .i64 0, .int .i64 0, .int .i64 0, .slice none 0 0, .int .i64 0]) ?_ 3 _ rfl
        refine blk_put (cs := #[.int .i64 b0, .int .i64 b1, .int .i64 0, .int .i64 0, .int .i64 0, .int .i64 0, .int .i64 0, .int .i64 0, .int .i64 0, .slice none 0 0, .int .i64 0]) ?_ 2 _ rfl
        refine blk_put (cs := #[.int .i64 b0, .int .i64 0, .int .i64 0, .int .i64 0, .int .i64 0, .int .i64 0, .int .i64 0, .int .i64 0, .int .i64 0, .slice none 0 0, .int .i64 0]) ?_ 1 _ rfl
        refine blk_put (cs := #[.int .i64 0, .int .i64 0, .int .i64 0, .int .i64 0, .int .i64 0, .int .i64 0, .int .i64 0, .int .i64 0, .int .i64 0, .slice none 0 0, .int .i64 0]) ?_ 0 _ rfl
        exact Y4.out) Tryd.underlying52 rfl (by kernel_rfl)) rfl ?_
      exact ⟨by rw [HS.out]; rfl, by
        repeat (refine below_set ?_ hle)
        exact HB2.out⟩
  · have hs : secS g1 l.length = 0 := by unfold secS mx; rw [HM'.out]; exact if_neg h0
    have HS := Aside0.mk hs
    clear hs
    go_region_held3 (fun w' => w'.cell? ⟨B2, 0, none⟩ = some (.int .i64 b0) ∧ w'.cell? ⟨B2, 1, none⟩ = some (.int .i64 b1) ∧ w'.cell? ⟨B2, 2, none⟩ = some (.int .i64 f0) ∧ w'.cell? ⟨B2, 3, none⟩ = some (.int .i64 f1) ∧ w'.cell? ⟨B2, 4, none⟩ = some (.int .i64 j0) ∧ w'.cell? ⟨B2, 5, none⟩ = some (.int .i64 j1) ∧ w'.cell? ⟨B2, 6, none⟩ = some (.int .i64 g0) ∧ w'.cell? ⟨B2, 7, none⟩ = some (.int .i64 g1) ∧ w'.cell? ⟨B2, 8, none⟩ = some (.int .i64 dr))
      (with_reducible first | exact ⟨e0_, e1_, e2_, e3_, e4_, e5_, e6_, e7_, e8_⟩ | exact ⟨pw_cell_below HC.out c0_, pw_cell_below HC.out c1_, pw_cell_below HC.out c2_, pw_cell_below HC.out c3_, pw_cell_below HC.out c4_, pw_cell_below HC.out c5_, pw_cell_below HC.out c6_, pw_cell_below HC.out c7_, pw_cell_below HC.out c8_⟩ | (refine ⟨?_, ?_, ?_, ?_, ?_, ?_, ?_, ?_, ?_⟩ <;> (repeat (refine (World.cell?_setCell_far _ _ _ _ HNE.out).trans ?_)) <;> first | exact pw_cell_below HC.out c0_ | exact pw_cell_below HC.out c1_ | exact pw_cell_below HC.out c2_ | exact pw_cell_below HC.out c3_ | exact pw_cell_below HC.out c4_ | exact pw_cell_below HC.out c5_ | exact pw_cell_below HC.out c6_ | exact pw_cell_below HC.out c7_ | exact pw_cell_below HC.out c8_))
      ((go_at_call 34; refine (HCK.out _ (Kd.C_drew HW.out)).mono ?_; rintro e w2 ⟨rfl, hb⟩; have HC := Aside0.mk (below_step (below_drew (Below.refl _ W)) hb); have y4 := blk_below (blk_drew X4.out) hb; have HB2 := Aside0.mk (below_step (below_drew HB.out) hb); have Y4 := Aside0.mk y4; have d0_ := (blk_cell y4 0).trans rfl; have f0_ := blk_frozen y4 0; have d1_ := (blk_cell y4 1).trans rfl; have f1_ := blk_frozen y4 1; have d2_ := (blk_cell y4 2).trans rfl; have f2_ := blk_frozen y4 2; have d3_ := (blk_cell y4 3).trans rfl; have f3_ := blk_frozen y4 3; have d4_ := (blk_cell y4 4).trans rfl; have f4_ := blk_frozen y4 4; have d5_ := (blk_cell y4 5).trans rfl; have f5_ := blk_frozen y4 5; have d6_ := (blk_cell y4 6).trans rfl; have f6_ := blk_frozen y4 6; have d7_ := (blk_cell y4 7).trans rfl; have f7_ := blk_frozen y4 7; have d8_ := (blk_cell y4 8).trans rfl; have f8_ := blk_frozen y4 8; have d9_ := (blk_cell y4 9).trans rfl; have f9_ := blk_frozen y4 9; have d10_ := (blk_cell y4 10).trans rfl; have f10_ := blk_frozen y4 10; clear y4 hb))
    all_goals
      go_wp2
      refine bodyPost_ret (results_ct rfl _ _ B4 52 #[.int .i64 b0, .int .i64 b1, .int .i64 f0, .int .i64 f1, .int .i64 j0, .int .i64 j1, .int .i64 g0, .int .i64 g1, .int .i64 dr, .slice A l.length c, .int .i64 0] (0, 0) _ rfl (by
        refine blk_put (cs := #[.int .i64 b0, .int .i64 b1, .int .i64 f0, .int .i64 f1, .int .i64 j0, .int .i64 j1, .int .i64 g0, .int .i64 g1, .int .i64 dr, .slice A l.length c, .int .i64 0]) ?_ 10 _ rfl
        refine blk_put (cs := #[.int .i64 b0, .int .i64 b1, .int .i64 f0, .int .i64 f1, .int .i64 j0, .int .i64 j1, .int .i64 g0, .int .i64 g1, .int .i64 dr, .slice none 0 0, .int .i64 0]) ?_ 9 _ rfl
        refine blk_put (cs := #[.int .i64 b0, .int .i64 b1, .int .i64 f0, .int .i64 f1, .int .i64 j0, .int .i64 j1, .int .i64 g0, .int .i64 g1, .int .i64 0, .slice none 0 0, .int .i64 0]) ?_ 8 _ rfl
        refine blk_put (cs := #[.int .i64 b0, .int .i64 b1, .int .i64 f0, .int .i64 f1, .int .i64 j0, .int .i64 j1, .int .i64 g0, .int .i64 0, .int .i64 0, .slice none 0 0, .int .i64 0]) ?_ 7 _ rfl
        refine blk_put (cs := #[.int .i64 b0, .int .i64 b1, .int .i64 f0, .int .i64 f1, .int .i64 j0, .int .i64 j1, .int .i64 0, .int .i64 0, .int .i64 0, .slice none 0 0, .int .i64 0]) ?_ 6 _ rfl
        refine blk_put (cs := #[.int .i64 b0, .int .i64 b1, .int .i64 f0, .int .i64 f1, .int .i64 j0, .int .i64 0, .int .i64 0, .int .i64 0, .int .i64 0, .slice none 0 0, .int .i64 0]) ?_ 5 _ rfl
        refine blk_put (cs := #[.int .i64 b0, .int .i64 b1, .int .i64 f0, .int .i64 f1, .int .i64 0, .int .i64 0, .int .i64 0, .int .i64 0, .int .i64 0, .slice none 0 0, .int .i64 0]) ?_ 4 _ rfl
        refine blk_put (cs := #[.int .i64 b0, .int .i64 b1, .int .i64 f0, .int .i64 0, .int .i64 0, .int .i64 0, .int .i64 0, .int .i64 0, .int .i64 0, .slice none 0 0, .int .i64 0]) ?_ 3 _ rfl
        refine blk_put (cs := #[.int .i64 b0, .int .i64 b1, .int .i64 0, .int .i64 0, .int .i64 0, .int .i64 0, .int .i64 0, .int .i64 0, .int .i64 0, .slice none 0 0, .int .i64 0]) ?_ 2 _ rfl
        refine blk_put (cs := #[.int .i64 b0, .int .i64 0, .int .i64 0, .int .i64 0, .int .i64 0, .int .i64 0, .int .i64 0, .int .i64 0, .int .i64 0, .slice none 0 0, .int .i64 0]) ?_ 1 _ rfl
        refine blk_put (cs := #[.int .i64 0, .int .i64 0, .int .i64 0, .int .i64 0, .int .i64 0, .int .i64 0, .int .i64 0, .int .i64 0, .int .i64 0, .slice none 0 0, .int .i64 0]) ?_ 0 _ rfl
        exact Y4.out) Tryd.underlying52 rfl (by kernel_rfl)) rfl ?_
      exact ⟨by rw [HS.out]; rfl, by
        repeat (refine below_set ?_ hle)
        exact HB2.out⟩
end Go.Proofs.YtaijhbliagjeaaaDoor
namespace Go.Proofs.YtaijhbliagjeaaaDoor
open Go.RowKit Go.Proofs.YtaijhbliagjeaaaDoorW.PrintWords Go.Proofs.YtaijhbliagjeaaaDoorW.PrintMore
attribute [local go_sem] max2_int min2_int max_two min_two max_three min_three max_four min_four
set_option linter.unusedVariables false
set_option linter.unusedSimpArgs false
theorem frz_below {w w1 : World} (hb : Below w.heap.size w w1) {a : Addr} {v : Value} (hc : w.cell? a = some v) (h : w.frozen? a = false) : w1.frozen? a = false := (hb.frozen (World.block_lt_of_cell? w a hc)).trans h
/-- the heat of a second at a lag, at an end -/
def heatF (k : Bool) (b0 b1 f0 f1 j0 j1 dr y : Int) : Int := sel k j0 j1 * sel k f0 f1 * missF k b0 b1 y dr
/-- a hood in its limits -/
def HoodOK (b0 b1 f0 f1 j0 j1 g0 g1 dr : Int) : Prop := (0 ≤ b0 ∧ b0 ≤ b1 ∧ b1 ≤ 1000000) ∧ (0 ≤ f0 ∧ f0 ≤ f1 ∧ f1 ≤ 10000) ∧ (0 ≤ j0 ∧ j0 ≤ j1 ∧ j1 ≤ 30000) ∧ (0 ≤ g0 ∧ g0 ≤ g1 ∧ g1 ≤ 30) ∧ (0 ≤ dr ∧ dr ≤ 1000)
set_option maxRecDepth 100000 in
set_option maxHeartbeats 4000000 in
theorem heat_calls (b0 b1 f0 f1 j0 j1 g0 g1 dr : Int) (hH : HoodOK b0 b1 f0 f1 j0 j1 g0 g1 dr) (A : Option Addr) (c : Nat) (l : List Int) (sc i j : Int) (w : World) (hr : Kd.C (Kd.int .i64) w A l.length l)
    (i0 : 0 ≤ i) (i1 : i ≤ 1000000) (jj0 : 0 ≤ j) (jj1 : j ≤ 1000) (ij : i + j < l.length) (y0 : 0 ≤ rd l (i + j)) (y1 : rd l (i + j) ≤ 1000000) (hG : GlobOK w) :
    Calls Tryd.prog 24 #[.agg #[.int .i64 b0, .int .i64 b1, .int .i64 f0, .int .i64 f1, .int .i64 j0, .int .i64 j1, .int .i64 g0, .int .i64 g1, .int .i64 dr, .slice A l.length c, .int .i64 sc], .int .i64 i, .int .i64 j] w
      fun e w' => e = .returned (.agg #[.int .i64 (heatF false b0 b1 f0 f1 j0 j1 dr (rd l (i + j))), .int .i64 (heatF true b0 b1 f0 f1 j0 j1 dr (rd l (i + j)))]) ∧ Below w.heap.size w w' := by
  obtain ⟨tg, fr, hg⟩ := hG
  obtain ⟨ad, rfl, hel⟩ := Kd.at_int hr (i + j) (by omega) (by omega)
  have HEL := Aside0.mk hel
  have HGL := Aside0.mk hg
  have HH := Aside0.mk hH
  clear hr hel hg hH
  generalize rd l (i + j) = y at *
  generalize l.length = n at *
  go_enter Tryd.func24, Tryd.ntmps24
  go_wp2_with ((with_reducible refine gate_ (.load 75 (.global 0)) rfl ?_); refine wpList_load_row rfl 75 (.global 0) rfl 0 rfl tg tabC fr _ (blk_alloc (blk_alloc (blk_alloc (blk_alloc (blk_alloc HGL.out _) _) _) _) _) Tryd.underlying75 rfl (by kernel_rfl) ?_)
  obtain ⟨W, hW⟩ : ∃ W, ((((w.alloc (.cells #[.int .i64 b0, .int .i64 b1, .int .i64 f0, .int .i64 f1, .int .i64 j0, .int .i64 j1, .int .i64 g0, .int .i64 g1, .int .i64 dr, .slice (some ad) n c, .int .i64 sc] 52)).alloc (.cells #[.int .i64 i] 3)).alloc (.cells #[.int .i64 j] 3)).alloc (.cells #[.int .i64 0, .int .i64 0] 23)).alloc (.cells #[.int .i64 0, .int .i64 0] 70) = W := ⟨_, rfl⟩
  rw [hW]
  have hbW : Below w.heap.size w W := hW ▸ below_alloc (below_alloc (below_alloc (below_alloc (below_alloc (Below.refl _ w) _) _) _) _) _
  obtain ⟨x3, x4, x5, x6, x7⟩ : W.heap[w.heap.size]? = some (.cells #[.int .i64 b0, .int .i64 b1, .int .i64 f0, .int .i64 f1, .int .i64 j0, .int .i64 j1, .int .i64 g0, .int .i64 g1, .int .i64 dr, .slice (some ad) n c, .int .i64 sc] 52)
      ∧ W.heap[w.heap.size + 1]? = some (.cells #[.int .i64 i] 3) ∧ W.heap[w.heap.size + 1 + 1]? = some (.cells #[.int .i64 j] 3) ∧ W.heap[w.heap.size + 1 + 1 + 1]? = some (.cells #[.int .i64 0, .int .i64 0] 23) ∧ W.heap[w.heap.size + 1 + 1 + 1 + 1]? = some (.cells #[.int .i64 0, .int .i64 0] 70) := by
    rw [← hW]
    exact ⟨blk_alloc (blk_alloc (blk_alloc (blk_alloc (blk_new _ _) _) _) _) _, blk_alloc (blk_alloc (blk_alloc (blk_new_at _ _ (by simp)) _) _) _, blk_alloc (blk_alloc (blk_new_at _ _ (by simp)) _) _, blk_alloc (blk_new_at _ _ (by simp)) _, blk_new_at _ _ (by simp)⟩
  clear hW
  have hle : w.heap.size ≤ w.heap.size + 1 + 1 + 1 + 1 := by omega
  have hle6 : w.heap.size ≤ w.heap.size + 1 + 1 + 1 := by omega
  have n73 : w.heap.size + 1 + 1 + 1 + 1 ≠ w.heap.size := by omega
  have n74 : w.heap.size + 1 + 1 + 1 + 1 ≠ w.heap.size + 1 := by omega
  have n75 : w.heap.size + 1 + 1 + 1 + 1 ≠ w.heap.size + 1 + 1 := by omega
  have n76 : w.heap.size + 1 + 1 + 1 + 1 ≠ w.heap.size + 1 + 1 + 1 := by omega
  have lad := World.block_lt_of_cell? w _ HEL.out
  generalize w.heap.size + 1 + 1 + 1 + 1 = G7 at *
  generalize w.heap.size + 1 + 1 + 1 = G6 at *
  generalize w.heap.size + 1 + 1 = G5 at *
  generalize w.heap.size + 1 = G4 at *
  have hle3 : w.heap.size ≤ w.heap.size := Nat.le_refl _
  obtain ⟨G3, hG3⟩ : ∃ G, G = w.heap.size := ⟨_, rfl⟩
  rw [← hG3] at x3 n73 ⊢
  have HG3 := Aside0.mk hG3
  clear hG3
  have n7a : G7 ≠ (ad.add (i + j).toNat).block := by omega
  have X3 := Aside0.mk x3
  have X4 := Aside0.mk x4
  have X5 := Aside0.mk x5
  have X6 := Aside0.mk x6
  have X7 := Aside0.mk x7
  have HB := Aside0.mk hbW
  clear x3 x4 x5 x6 x7 hbW lad
  go_loopg [12] 2 (fun gg s12 wr => ∃ (kk : Int) (p q : Int), 0 ≤ kk ∧ kk ≤ 2 ∧ 2 - kk ≤ gg ∧ s12 = .int .i64 kk ∧ Aside0 (Below w.heap.size w wr)
      ∧ Aside0 (wr.heap[G3]? = some (.cells #[.int .i64 b0, .int .i64 b1, .int .i64 f0, .int .i64 f1, .int .i64 j0, .int .i64 j1, .int .i64 g0, .int .i64 g1, .int .i64 dr, .slice (some ad) n c, .int .i64 sc] 52))
      ∧ Aside0 (wr.heap[G4]? = some (.cells #[.int .i64 i] 3)) ∧ Aside0 (wr.heap[G5]? = some (.cells #[.int .i64 j] 3)) ∧ Aside0 (wr.heap[G6]? = some (.cells #[.int .i64 0, .int .i64 0] 23)) ∧ Aside0 (wr.heap[G7]? = some (.cells #[.int .i64 p, .int .i64 q] 70))
      ∧ Aside0 ((1 ≤ kk → p = heatF false b0 b1 f0 f1 j0 j1 dr y) ∧ (2 ≤ kk → q = heatF true b0 b1 f0 f1 j0 j1 dr y)))
  case atStart => exact ⟨0, 0, 0, by omega, by omega, by omega, rfl, HB, X3, X4, X5, X6, X7, ⟨fun h => by omega, fun h => by omega⟩⟩
  case round =>
    clear HB X3 X4 X5 X6 X7
    obtain ⟨kk, p, q, hkk0, hkk, hg, rfl, HB, X3, X4, X5, X6, X7, HPQ⟩ := hrel
    obtain rfl | rfl | rfl : kk = 0 ∨ kk = 1 ∨ kk = 2 := by omega
    · have hix : ∀ W', (Instr.index 75 (.agg tabC) (.int .i64 0)).run Tryd.prog W' = .ok (.agg #[.func (.func (ofF false)) #[] #[], .func (.func (offF false)) #[] #[]]) W' := fun _ => by kernel_rfl
      have hu96 := Tryd.underlying74
      go_wp2_with fail
      obtain ⟨w2, hw2⟩ : ∃ w2, wr.alloc (.cells #[.func (.func (ofF false)) #[] #[], .func (.func (offF false)) #[] #[]] 74) = w2 := ⟨_, rfl⟩
      rw [hw2]
      have hB2 : Below w.heap.size w w2 := hw2 ▸ below_alloc HB.out _
      have y3 := hw2 ▸ blk_alloc X3.out (.cells #[.func (.func (ofF false)) #[] #[], .func (.func (offF false)) #[] #[]] 74)
      have y4 := hw2 ▸ blk_alloc X4.out (.cells #[.func (.func (ofF false)) #[] #[], .func (.func (offF false)) #[] #[]] 74)
      have y5 := hw2 ▸ blk_alloc X5.out (.cells #[.func (.func (ofF false)) #[] #[], .func (.func (offF false)) #[] #[]] 74)
      have y6 := hw2 ▸ blk_alloc X6.out (.cells #[.func (.func (ofF false)) #[] #[], .func (.func (offF false)) #[] #[]] 74)
      have y7 := hw2 ▸ blk_alloc X7.out (.cells #[.func (.func (ofF false)) #[] #[], .func (.func (offF false)) #[] #[]] 74)
      have y9 : w2.heap[wr.heap.size]? = some (.cells #[.func (.func (ofF false)) #[] #[], .func (.func (offF false)) #[] #[]] 74) := hw2 ▸ blk_new wr _
      have n79 : G7 ≠ wr.heap.size := by have := blk_lt X7.out; omega
      have lg := blk_lt X7.out
      clear hw2
      generalize wr.heap.size = G9 at *
      have a0 : w2.cell? ⟨G9, 0, none⟩ = some (.func (.func (ofF false)) #[] #[]) := (blk_cell y9 0).trans rfl
      have a1 : w2.cell? ⟨G9, 1, none⟩ = some (.func (.func (offF false)) #[] #[]) := (blk_cell y9 1).trans rfl
      have a2 : w2.cell? ⟨G3, 0, none⟩ = some (.int .i64 b0) := (blk_cell y3 0).trans rfl
      have a3 : w2.cell? ⟨G3, 1, none⟩ = some (.int .i64 b1) := (blk_cell y3 1).trans rfl
      have a4 : w2.cell? ⟨G3, 2, none⟩ = some (.int .i64 f0) := (blk_cell y3 2).trans rfl
      have a5 : w2.cell? ⟨G3, 3, none⟩ = some (.int .i64 f1) := (blk_cell y3 3).trans rfl
      have a6 : w2.cell? ⟨G3, 4, none⟩ = some (.int .i64 j0) := (blk_cell y3 4).trans rfl
      have a7 : w2.cell? ⟨G3, 5, none⟩ = some (.int .i64 j1) := (blk_cell y3 5).trans rfl
      have a8 : w2.cell? ⟨G3, 8, none⟩ = some (.int .i64 dr) := (blk_cell y3 8).trans rfl
      have a9 : w2.cell? ⟨G3, 9, none⟩ = some (.slice (some ad) n c) := (blk_cell y3 9).trans rfl
      have a10 : w2.cell? ⟨G4, 0, none⟩ = some (.int .i64 i) := (blk_cell y4 0).trans rfl
      have a11 : w2.cell? ⟨G5, 0, none⟩ = some (.int .i64 j) := (blk_cell y5 0).trans rfl
      have a12 : w2.cell? (ad.add (i + j).toNat) = some (.int .i64 y) := pw_cell_below hB2 HEL.out
      have a13 : w2.cell? ⟨G7, 0, none⟩ = some (.int .i64 p) := (blk_cell y7 0).trans rfl
      have a14 : w2.cell? ⟨G7, 1, none⟩ = some (.int .i64 q) := (blk_cell y7 1).trans rfl
      have a15 := blk_frozen y7 0
      have a16 := blk_frozen y7 1
      have Y3 := Aside0.mk y3
      have Y4 := Aside0.mk y4
      have Y5 := Aside0.mk y5
      have Y6 := Aside0.mk y6
      have Y7 := Aside0.mk y7
      have HB2 := Aside0.mk hB2
      clear y3 y4 y5 y6 y7 y9 hB2 lg
      clear HB X3 X4 X5 X6 X7
      have e1 := of_enters false
      have e2 : ∀ args w, (callFunc 36 args).run Tryd.prog w = .ok (.enter 36 args) w := enters_of Tryd.func36 (by kernel_rfl) rfl
      have hh := HH.out
      unfold HoodOK at hh
      have s1 : 0 ≤ sel false j0 j1 ∧ sel false j0 j1 ≤ 30000 := by simp [sel] <;> omega
      have s2 : 0 ≤ sel false f0 f1 ∧ sel false f0 f1 ≤ 10000 := by simp [sel] <;> omega
      have s3 : 0 ≤ missF false b0 b1 y dr ∧ missF false b0 b1 y dr ≤ 1001000 := by
        unfold missF mx sel sgn
        simp
        split <;> omega
      have m1 : 0 ≤ sel false j0 j1 * sel false f0 f1 ∧ sel false j0 j1 * sel false f0 f1 ≤ 300000000 := ⟨Int.mul_nonneg s1.1 s2.1, by have := Int.mul_le_mul s1.2 s2.2 s2.1 (by omega); omega⟩
      have m2 : 0 ≤ sel false j0 j1 * sel false f0 f1 * missF false b0 b1 y dr ∧ sel false j0 j1 * sel false f0 f1 * missF false b0 b1 y dr ≤ 300300000000000 := ⟨Int.mul_nonneg m1.1 s3.1, by have := Int.mul_le_mul m1.2 s3.2 s3.1 (by omega); omega⟩
      have wr1 : IntKind.i64.wrap (sel false j0 j1 * sel false f0 f1) = sel false j0 j1 * sel false f0 f1 := IntWalk.i64_in _ (by omega)
      have wr2 : IntKind.i64.wrap (sel false j0 j1 * sel false f0 f1 * missF false b0 b1 y dr) = sel false j0 j1 * sel false f0 f1 * missF false b0 b1 y dr := IntWalk.i64_in _ (by omega)
      obtain ⟨⟨q0, q1, q2⟩, _, _, _, q3, q4⟩ := hh
      have q5 : 0 ≤ b1 := by omega
      have q6 : b0 ≤ 1000000 := by omega
      clear s1 s2 s3 m1 m2 q1
      go_region_held3 (fun w' => w'.cell? ⟨G9, 0, none⟩ = some (.func (.func (ofF false)) #[] #[]) ∧ w'.cell? ⟨G9, 1, none⟩ = some (.func (.func (offF false)) #[] #[])
          ∧ w'.cell? ⟨G3, 0, none⟩ = some (.int .i64 b0) ∧ w'.cell? ⟨G3, 1, none⟩ = some (.int .i64 b1) ∧ w'.cell? ⟨G3, 2, none⟩ = some (.int .i64 f0) ∧ w'.cell? ⟨G3, 3, none⟩ = some (.int .i64 f1) ∧ w'.cell? ⟨G3, 4, none⟩ = some (.int .i64 j0) ∧ w'.cell? ⟨G3, 5, none⟩ = some (.int .i64 j1)
          ∧ w'.cell? ⟨G3, 8, none⟩ = some (.int .i64 dr) ∧ w'.cell? ⟨G3, 9, none⟩ = some (.slice (some ad) n c)
          ∧ w'.cell? ⟨G4, 0, none⟩ = some (.int .i64 i) ∧ w'.cell? ⟨G5, 0, none⟩ = some (.int .i64 j) ∧ w'.cell? (ad.add (i + j).toNat) = some (.int .i64 y))
        (first
          | go_keep
          | exact ⟨pw_cell_below HC.out a0, pw_cell_below HC.out a1, pw_cell_below HC.out a2, pw_cell_below HC.out a3, pw_cell_below HC.out a4, pw_cell_below HC.out a5, pw_cell_below HC.out a6, pw_cell_below HC.out a7, pw_cell_below HC.out a8, pw_cell_below HC.out a9, pw_cell_below HC.out a10, pw_cell_below HC.out a11, pw_cell_below HC.out a12⟩)
        ((first
          | (go_at_fn (ofF false); (with_reducible refine (of_calls false _ _ _).mono ?_); rintro e w3 ⟨rfl, hb1⟩; have HD : Aside0 (Below w2.heap.size w2 w3) := ⟨by first | exact below_step HC.out hb1 | exact below_step (below_drew (Below.refl _ _)) hb1⟩; (try clear HC); have HC := HD; clear HD hb1)
          | (go_at_fn 36; (with_reducible refine (heat1_calls false G9 G3 G4 G5 b0 b1 dr i j y ad n c _ ?_ ?_ ?_ ?_ ?_ ?_ ?_ ?_ ?_ i0 i1 jj0 jj1 ij q0 q6 q5 q2 q3 q4 y0 y1).mono ?_); (simp [*]); (simp [*]); (simp [*]); (simp [*]); (simp [*]); (simp [*]); (simp [*]); (simp [*]); (simp [*]); rintro e w4 ⟨rfl, hb1⟩; have HD : Aside0 (Below w2.heap.size w2 w4) := ⟨below_step HC.out hb1⟩; clear HC; have HC := HD; clear HD hb1; have z0 := pw_cell_below HC.out a13; have z1 := pw_cell_below HC.out a14; have z2 := frz_below HC.out a13 a15; have z3 := frz_below HC.out a14 a16)))
      have x3 := blk_far (blk_below Y3.out HC.out) (Ne.symm n73) (u := .int .i64 (heatF false b0 b1 f0 f1 j0 j1 dr y)) (p := ⟨G7, 0, none⟩)
      have x4 := blk_far (blk_below Y4.out HC.out) (Ne.symm n74) (u := .int .i64 (heatF false b0 b1 f0 f1 j0 j1 dr y)) (p := ⟨G7, 0, none⟩)
      have x5 := blk_far (blk_below Y5.out HC.out) (Ne.symm n75) (u := .int .i64 (heatF false b0 b1 f0 f1 j0 j1 dr y)) (p := ⟨G7, 0, none⟩)
      have x6 := blk_far (blk_below Y6.out HC.out) (Ne.symm n76) (u := .int .i64 (heatF false b0 b1 f0 f1 j0 j1 dr y)) (p := ⟨G7, 0, none⟩)
      have x7 := blk_put (cs' := #[.int .i64 (heatF false b0 b1 f0 f1 j0 j1 dr y), .int .i64 q]) (blk_below Y7.out HC.out) 0 (.int .i64 (heatF false b0 b1 f0 f1 j0 j1 dr y)) rfl
      have hB5 : Below w.heap.size w (w4.setCell ⟨G7, 0, none⟩ (.int .i64 (heatF false b0 b1 f0 f1 j0 j1 dr y))) := below_set (below_step HB2.out HC.out) hle
      change (Exit.inBlock 1 _) Exit.normal _ (w4.setCell ⟨G7, 0, none⟩ (.int .i64 (heatF false b0 b1 f0 f1 j0 j1 dr y)))
      clear z0 z1 z2 z3
      generalize w4.setCell ⟨G7, 0, none⟩ (.int .i64 (heatF false b0 b1 f0 f1 j0 j1 dr y)) = w5 at *
      have Z3 := Aside0.mk x3
      have Z4 := Aside0.mk x4
      have Z5 := Aside0.mk x5
      have Z6 := Aside0.mk x6
      have Z7 := Aside0.mk x7
      have HB5 := Aside0.mk hB5
      clear x3 x4 x5 x6 x7 hB5 a0 a1 a2 a3 a4 a5 a6 a7 a8 a9 a10 a11 a12 a13 a14 a15 a16 HC HB2 Y3 Y4 Y5 Y6 Y7 e1 e2 wr1 wr2 hix hu96
      go_wp2
      go_roundg 1
      case measure => omega
      case rel => exact ⟨1, heatF false b0 b1 f0 f1 j0 j1 dr y, q, by omega, by omega, by omega, rfl, HB5, Z3, Z4, Z5, Z6, Z7, ⟨fun _ => rfl, fun h => by omega⟩⟩
    · have hix : ∀ W', (Instr.index 75 (.agg tabC) (.int .i64 1)).run Tryd.prog W' = .ok (.agg #[.func (.func (ofF true)) #[] #[], .func (.func (offF true)) #[] #[]]) W' := fun _ => by kernel_rfl
      have hu96 := Tryd.underlying74
      go_wp2_with fail
      obtain ⟨w2, hw2⟩ : ∃ w2, wr.alloc (.cells #[.func (.func (ofF true)) #[] #[], .func (.func (offF true)) #[] #[]] 74) = w2 := ⟨_, rfl⟩
      rw [hw2]
      have hB2 : Below w.heap.size w w2 := hw2 ▸ below_alloc HB.out _
      have y3 := hw2 ▸ blk_alloc X3.out (.cells #[.func (.func (ofF true)) #[] #[], .func (.func (offF true)) #[] #[]] 74)
      have y4 := hw2 ▸ blk_alloc X4.out (.cells #[.func (.func (ofF true)) #[] #[], .func (.func (offF true)) #[] #[]] 74)
      have y5 := hw2 ▸ blk_alloc X5.out (.cells #[.func (.func (ofF true)) #[] #[], .func (.func (offF true)) #[] #[]] 74)
      have y6 := hw2 ▸ blk_alloc X6.out (.cells #[.func (.func (ofF true)) #[] #[], .func (.func (offF true)) #[] #[]] 74)
      have y7 := hw2 ▸ blk_alloc X7.out (.cells #[.func (.func (ofF true)) #[] #[], .func (.func (offF true)) #[] #[]] 74)
      have y9 : w2.heap[wr.heap.size]? = some (.cells #[.func (.func (ofF true)) #[] #[], .func (.func (offF true)) #[] #[]] 74) := hw2 ▸ blk_new wr _
      have n79 : G7 ≠ wr.heap.size := by have := blk_lt X7.out; omega
      have lg := blk_lt X7.out
      clear hw2
      generalize wr.heap.size = G9 at *
      have a0 : w2.cell? ⟨G9, 0, none⟩ = some (.func (.func (ofF true)) #[] #[]) := (blk_cell y9 0).trans rfl
      have a1 : w2.cell? ⟨G9, 1, none⟩ = some (.func (.func (offF true)) #[] #[]) := (blk_cell y9 1).trans rfl
      have a2 : w2.cell? ⟨G3, 0, none⟩ = some (.int .i64 b0) := (blk_cell y3 0).trans rfl
      have a3 : w2.cell? ⟨G3, 1, none⟩ = some (.int .i64 b1) := (blk_cell y3 1).trans rfl
      have a4 : w2.cell? ⟨G3, 2, none⟩ = some (.int .i64 f0) := (blk_cell y3 2).trans rfl
      have a5 : w2.cell? ⟨G3, 3, none⟩ = some (.int .i64 f1) := (blk_cell y3 3).trans rfl
      have a6 : w2.cell? ⟨G3, 4, none⟩ = some (.int .i64 j0) := (blk_cell y3 4).trans rfl
      have a7 : w2.cell? ⟨G3, 5, none⟩ = some (.int .i64 j1) := (blk_cell y3 5).trans rfl
      have a8 : w2.cell? ⟨G3, 8, none⟩ = some (.int .i64 dr) := (blk_cell y3 8).trans rfl
      have a9 : w2.cell? ⟨G3, 9, none⟩ = some (.slice (some ad) n c) := (blk_cell y3 9).trans rfl
      have a10 : w2.cell? ⟨G4, 0, none⟩ = some (.int .i64 i) := (blk_cell y4 0).trans rfl
      have a11 : w2.cell? ⟨G5, 0, none⟩ = some (.int .i64 j) := (blk_cell y5 0).trans rfl
      have a12 : w2.cell? (ad.add (i + j).toNat) = some (.int .i64 y) := pw_cell_below hB2 HEL.out
      have a13 : w2.cell? ⟨G7, 0, none⟩ = some (.int .i64 p) := (blk_cell y7 0).trans rfl
      have a14 : w2.cell? ⟨G7, 1, none⟩ = some (.int .i64 q) := (blk_cell y7 1).trans rfl
      have a15 := blk_frozen y7 0
      have a16 := blk_frozen y7 1
      have Y3 := Aside0.mk y3
      have Y4 := Aside0.mk y4
      have Y5 := Aside0.mk y5
      have Y6 := Aside0.mk y6
      have Y7 := Aside0.mk y7
      have HB2 := Aside0.mk hB2
      clear y3 y4 y5 y6 y7 y9 hB2 lg
      clear HB X3 X4 X5 X6 X7
      have e1 := of_enters true
      have e2 : ∀ args w, (callFunc 36 args).run Tryd.prog w = .ok (.enter 36 args) w := enters_of Tryd.func36 (by kernel_rfl) rfl
      have hh := HH.out
      unfold HoodOK at hh
      have s1 : 0 ≤ sel true j0 j1 ∧ sel true j0 j1 ≤ 30000 := by simp [sel] <;> omega
      have s2 : 0 ≤ sel true f0 f1 ∧ sel true f0 f1 ≤ 10000 := by simp [sel] <;> omega
      have s3 : 0 ≤ missF true b0 b1 y dr ∧ missF true b0 b1 y dr ≤ 1001000 := by
        unfold missF mx sel sgn
        simp
        split <;> omega
      have m1 : 0 ≤ sel true j0 j1 * sel true f0 f1 ∧ sel true j0 j1 * sel true f0 f1 ≤ 300000000 := ⟨Int.mul_nonneg s1.1 s2.1, by have := Int.mul_le_mul s1.2 s2.2 s2.1 (by omega); omega⟩
      have m2 : 0 ≤ sel true j0 j1 * sel true f0 f1 * missF true b0 b1 y dr ∧ sel true j0 j1 * sel true f0 f1 * missF true b0 b1 y dr ≤ 300300000000000 := ⟨Int.mul_nonneg m1.1 s3.1, by have := Int.mul_le_mul m1.2 s3.2 s3.1 (by omega); omega⟩
      have wr1 : IntKind.i64.wrap (sel true j0 j1 * sel true f0 f1) = sel true j0 j1 * sel true f0 f1 := IntWalk.i64_in _ (by omega)
      have wr2 : IntKind.i64.wrap (sel true j0 j1 * sel true f0 f1 * missF true b0 b1 y dr) = sel true j0 j1 * sel true f0 f1 * missF true b0 b1 y dr := IntWalk.i64_in _ (by omega)
      obtain ⟨⟨q0, q1, q2⟩, _, _, _, q3, q4⟩ := hh
      have q5 : 0 ≤ b1 := by omega
      have q6 : b0 ≤ 1000000 := by omega
      clear s1 s2 s3 m1 m2 q1
      go_region_held3 (fun w' => w'.cell? ⟨G9, 0, none⟩ = some (.func (.func (ofF true)) #[] #[]) ∧ w'.cell? ⟨G9, 1, none⟩ = some (.func (.func (offF true)) #[] #[])
          ∧ w'.cell? ⟨G3, 0, none⟩ = some (.int .i64 b0) ∧ w'.cell? ⟨G3, 1, none⟩ = some (.int .i64 b1) ∧ w'.cell? ⟨G3, 2, none⟩ = some (.int .i64 f0) ∧ w'.cell? ⟨G3, 3, none⟩ = some (.int .i64 f1) ∧ w'.cell? ⟨G3, 4, none⟩ = some (.int .i64 j0) ∧ w'.cell? ⟨G3, 5, none⟩ = some (.int .i64 j1)
          ∧ w'.cell? ⟨G3, 8, none⟩ = some (.int .i64 dr) ∧ w'.cell? ⟨G3, 9, none⟩ = some (.slice (some ad) n c)
          ∧ w'.cell? ⟨G4, 0, none⟩ = some (.int .i64 i) ∧ w'.cell? ⟨G5, 0, none⟩ = some (.int .i64 j) ∧ w'.cell? (ad.add (i + j).toNat) = some (.int .i64 y))
        (first
          | go_keep
          | exact ⟨pw_cell_below HC.out a0, pw_cell_below HC.out a1, pw_cell_below HC.out a2, pw_cell_below HC.out a3, pw_cell_below HC.out a4, pw_cell_below HC.out a5, pw_cell_below HC.out a6, pw_cell_below HC.out a7, pw_cell_below HC.out a8, pw_cell_below HC.out a9, pw_cell_below HC.out a10, pw_cell_below HC.out a11, pw_cell_below HC.out a12⟩)
        ((first
          | (go_at_fn (ofF true); (with_reducible refine (of_calls true _ _ _).mono ?_); rintro e w3 ⟨rfl, hb1⟩; have HD : Aside0 (Below w2.heap.size w2 w3) := ⟨by first | exact below_step HC.out hb1 | exact below_step (below_drew (Below.refl _ _)) hb1⟩; (try clear HC); have HC := HD; clear HD hb1)
          | (go_at_fn 36; (with_reducible refine (heat1_calls true G9 G3 G4 G5 b0 b1 dr i j y ad n c _ ?_ ?_ ?_ ?_ ?_ ?_ ?_ ?_ ?_ i0 i1 jj0 jj1 ij q0 q6 q5 q2 q3 q4 y0 y1).mono ?_); (simp [*]); (simp [*]); (simp [*]); (simp [*]); (simp [*]); (simp [*]); (simp [*]); (simp [*]); (simp [*]); rintro e w4 ⟨rfl, hb1⟩; have HD : Aside0 (Below w2.heap.size w2 w4) := ⟨below_step HC.out hb1⟩; clear HC; have HC := HD; clear HD hb1; have z0 := pw_cell_below HC.out a13; have z1 := pw_cell_below HC.out a14; have z2 := frz_below HC.out a13 a15; have z3 := frz_below HC.out a14 a16)))
      have x3 := blk_far (blk_below Y3.out HC.out) (Ne.symm n73) (u := .int .i64 (heatF true b0 b1 f0 f1 j0 j1 dr y)) (p := ⟨G7, 1, none⟩)
      have x4 := blk_far (blk_below Y4.out HC.out) (Ne.symm n74) (u := .int .i64 (heatF true b0 b1 f0 f1 j0 j1 dr y)) (p := ⟨G7, 1, none⟩)
      have x5 := blk_far (blk_below Y5.out HC.out) (Ne.symm n75) (u := .int .i64 (heatF true b0 b1 f0 f1 j0 j1 dr y)) (p := ⟨G7, 1, none⟩)
      have x6 := blk_far (blk_below Y6.out HC.out) (Ne.symm n76) (u := .int .i64 (heatF true b0 b1 f0 f1 j0 j1 dr y)) (p := ⟨G7, 1, none⟩)
      have x7 := blk_put (cs' := #[.int .i64 p, .int .i64 (heatF true b0 b1 f0 f1 j0 j1 dr y)]) (blk_below Y7.out HC.out) 1 (.int .i64 (heatF true b0 b1 f0 f1 j0 j1 dr y)) rfl
      have hB5 : Below w.heap.size w (w4.setCell ⟨G7, 1, none⟩ (.int .i64 (heatF true b0 b1 f0 f1 j0 j1 dr y))) := below_set (below_step HB2.out HC.out) hle
      change (Exit.inBlock 1 _) Exit.normal _ (w4.setCell ⟨G7, 1, none⟩ (.int .i64 (heatF true b0 b1 f0 f1 j0 j1 dr y)))
      clear z0 z1 z2 z3
      generalize w4.setCell ⟨G7, 1, none⟩ (.int .i64 (heatF true b0 b1 f0 f1 j0 j1 dr y)) = w5 at *
      have Z3 := Aside0.mk x3
      have Z4 := Aside0.mk x4
      have Z5 := Aside0.mk x5
      have Z6 := Aside0.mk x6
      have Z7 := Aside0.mk x7
      have HB5 := Aside0.mk hB5
      clear x3 x4 x5 x6 x7 hB5 a0 a1 a2 a3 a4 a5 a6 a7 a8 a9 a10 a11 a12 a13 a14 a15 a16 HC HB2 Y3 Y4 Y5 Y6 Y7 e1 e2 wr1 wr2 hix hu96
      go_wp2
      go_roundg 0
      case measure => omega
      case rel => exact ⟨2, p, heatF true b0 b1 f0 f1 j0 j1 dr y, by omega, by omega, by omega, rfl, HB5, Z3, Z4, Z5, Z6, Z7, ⟨fun _ => HPQ.out.1 (by omega), fun _ => rfl⟩⟩
    · obtain rfl := HPQ.out.1 (by omega)
      obtain rfl := HPQ.out.2 (by omega)
      have z0 := (blk_cell X7.out 0).trans rfl
      have z1 := (blk_cell X7.out 1).trans rfl
      have z2 := (blk_cell X6.out 0).trans rfl
      have z3 := (blk_cell X6.out 1).trans rfl
      have z4 := blk_frozen X6.out 0
      have z5 := blk_frozen X6.out 1
      clear HPQ HEL HGL HH
      go_wp2
      refine bodyPost_ret (results_cell_row rfl _ _ G6 23 #[.int .i64 (heatF false b0 b1 f0 f1 j0 j1 dr y), .int .i64 (heatF true b0 b1 f0 f1 j0 j1 dr y)] (0, 0) _ rfl (by
        refine blk_put (cs := #[.int .i64 (heatF false b0 b1 f0 f1 j0 j1 dr y), .int .i64 0]) ?_ 1 _ rfl
        refine blk_put (cs := #[.int .i64 0, .int .i64 0]) ?_ 0 _ rfl
        exact X6.out) Tryd.underlying23 rfl (by kernel_rfl)) rfl ?_
      exact ⟨rfl, below_set (below_set HB.out hle6) hle6⟩
end Go.Proofs.YtaijhbliagjeaaaDoor
namespace Go.Proofs.YtaijhbliagjeaaaDoor
open Go.RowKit Go.Proofs.YtaijhbliagjeaaaDoorW.PrintWords Go.Proofs.YtaijhbliagjeaaaDoorW.PrintMore
attribute [local go_sem] max2_int min2_int max_two min_two max_three min_three max_four min_four
set_option linter.unusedVariables false
set_option linter.unusedSimpArgs false
def hull (a b : Int × Int) : Int × Int := (mn a.1 b.1, mx a.2 b.2)
def spanV (a : Int × Int) : Value := .agg #[.int .i64 a.1, .int .i64 a.2]
def kdS : Kd (Int × Int) := Kd.pair (Kd.int .i64) (Kd.int .i64)
set_option maxHeartbeats 1000000 in
theorem both_calls (a b : Int × Int) (w : World) : Calls Tryd.prog 25 #[spanV a, spanV b] w fun e w' => e = .returned (spanV (hull a b)) ∧ Below w.heap.size w w' := by
  obtain ⟨a0, a1⟩ := a
  obtain ⟨b0, b1⟩ := b
  have hB : Below w.heap.size w (((w.alloc (.cells #[.int .i64 a0, .int .i64 a1] 23)).alloc (.cells #[.int .i64 b0, .int .i64 b1] 23)).alloc (.cells #[.int .i64 (mn a0 b0), .int .i64 (mx a1 b1)] 23)) := below_alloc (below_alloc (below_alloc (Below.refl _ w) _) _) _
  have HB := Aside0.mk hB
  clear hB
  unfold spanV hull
  simp only
  by_cases h0 : b0 < a0 <;> by_cases h1 : a1 < b1
  all_goals
    first | (have e0 : mn a0 b0 = b0 := if_pos h0; rw [e0] at HB ⊢; clear e0) | (have e0 : mn a0 b0 = a0 := if_neg h0; rw [e0] at HB ⊢; clear e0)
    first | (have e1 : mx a1 b1 = b1 := if_pos h1; rw [e1] at HB ⊢; clear e1) | (have e1 : mx a1 b1 = a1 := if_neg h1; rw [e1] at HB ⊢; clear e1)
    go_enter Tryd.func25, Tryd.ntmps25
    go_wp2
    refine bodyPost_ret (results_cell_row rfl _ _ (w.heap.size + 1 + 1) 23 _ (0, 0) _ rfl (blk_new_at _ _ (by simp)) Tryd.underlying23 rfl (by kernel_rfl)) rfl ?_
    exact ⟨rfl, HB.out⟩
/-- a list of spans without its first one -/
theorem C_tail (A : Option Addr) (c : Nat) (x : Int × Int) (l : List (Int × Int)) (hc : (x :: l).length ≤ c) {i : TypeInfo} (hi : Tryd.prog.info? 23 = some i) (hsz : i.size = 2) :
    ∃ A' : Option Addr, (∀ W : World, (Instr.slice 61 (.slice A (x :: l).length c) (some (.int .i64 1)) none none).run Tryd.prog W = .ok (.slice A' l.length (c - 1)) W) ∧
      ∀ w : World, kdS.C w A (x :: l).length (x :: l) → kdS.C w A' l.length l := by
  refine ⟨if c = 1 then A else A.map (·.add 2), fun W => ?_, fun w h => ?_⟩
  · have ht := Tryd.underlying61
    have hel : Tryd.prog.elem 61 = 23 := by simp [Program.elem, ht]
    have hu : Tryd.prog.underlying 61 = some (.slice (Tryd.prog.elem 61)) := by rw [hel]; exact ht
    rw [run_slice_l W 61 A (x :: l).length c hu .i64 1 (by omega) (by simp; omega), hel]
    simp [sizeOf, typeInfo, hi, hsz, sliced, Result.andThen]
  · refine ⟨rfl, by have := h.2.1; simp at this ⊢; omega, fun hp => ?_⟩
    have hc1 : c ≠ 1 := by simp at hc; omega
    obtain ⟨ad, rfl, hcell⟩ := h.2.2 (by simp)
    refine ⟨ad.add 2, by simp [hc1], fun j p hj => ?_⟩
    obtain ⟨cs, h1, h2, h3⟩ := hcell (j + 1) p (by simpa using hj)
    refine ⟨cs, h1, h2, fun i u hu => ?_⟩
    have := h3 i u hu
    rw [show (ad.add 2).add (j * kdS.sz + i) = ad.add ((j + 1) * kdS.sz + i) from by rw [addr_add_add, show kdS.sz = 2 from rfl]; congr 1; omega]
    exact this
theorem infoS : (Tryd.prog.info? 23).map (fun i => (i.zero, i.size, i.bytes)) = some (some (.agg #[.int .i64 0, .int .i64 0]), 2, 16) := by kernel_rfl
/-- an element of a list of spans, as_ it lies -/
theorem C_span {w : World} {A : Option Addr} {n : Nat} {l : List (Int × Int)} (h : kdS.C w A n l) (k : Nat) (hk : k < n) :
    ∃ ad x, A = some ad ∧ l[k]? = some x ∧ w.cell? (ad.add (k * 2)) = some (.int .i64 x.1) ∧ w.cell? ⟨(ad.add (k * 2)).block, (ad.add (k * 2)).off + 1, none⟩ = some (.int .i64 x.2) := by
  obtain ⟨ad, rfl, hc⟩ := h.2.2 (by omega)
  have hl : k < l.length := by have := h.1; omega
  obtain ⟨cs, h1, h2, h3⟩ := hc k _ (List.getElem?_eq_getElem hl)
  obtain ⟨c0, c1, rfl, rfl, rfl⟩ := h2
  have h4 := h3 1 _ rfl
  rw [show ad.add (k * kdS.sz + 1) = (ad.add (k * 2)).add 1 from by rw [addr_add_add]; rfl] at h4
  exact ⟨ad, l[k], rfl, List.getElem?_eq_getElem hl, h3 0 _ rfl, h4⟩
set_option maxRecDepth 100000 in
set_option maxHeartbeats 2000000 in
theorem widest_calls (A : Option Addr) (c : Nat) (x : Int × Int) (l : List (Int × Int)) (hc : (x :: l).length ≤ c) (w : World) (hr : kdS.C w A (x :: l).length (x :: l)) :
    Calls Tryd.prog 26 #[.slice A (x :: l).length c, .func (.func 25) #[] #[]] w fun e w' => e = .returned (spanV (l.foldl hull x)) ∧ Below w.heap.size w w' := by
  obtain ⟨i0, hi, _, hsz, _⟩ := info_parts infoS
  obtain ⟨A', hcut, htail⟩ := C_tail A c x l hc hi hsz
  have hrt := htail w hr
  have hlen := hr.2.1
  obtain ⟨ad, x', rfl, hx', hc0, hc1⟩ := C_span hr 0 (by simp)
  obtain rfl : x = x' := by simpa using hx'
  simp only [Nat.zero_mul, Nat.zero_add, Addr.add_zero'] at hc0 hc1
  have hpos : (0 : Int) < ((x :: l).length : Int) := by simp
  have HT := Aside0.mk hrt
  clear hr htail hrt hx' hi hsz hc
  obtain ⟨x0, x1⟩ := x
  simp only at hc0 hc1
  replace hc0 := pw_cell_below (below_alloc (Below.refl _ w) (.cells #[.int .i64 0, .int .i64 0] 23)) hc0
  replace hc1 := pw_cell_below (below_alloc (Below.refl _ w) (.cells #[.int .i64 0, .int .i64 0] 23)) hc1
  have eg : ∀ args w, (callFunc 25 args).run Tryd.prog w = .ok (.enter 25 args) w := enters_of Tryd.func25 (by kernel_rfl) rfl
  have hlt : l.length ≤ 9223372036854775807 := by simp at hlen; omega
  generalize hL : ((x0, x1) :: l).length = n at *
  have HLN := Aside0.mk hL
  generalize hL2 : l.length = m at *
  have HL := Aside0.mk hL2
  clear hL hL2
  go_enter Tryd.func26, Tryd.ntmps26
  go_wp2
  obtain ⟨W, hW⟩ : ∃ W, (w.alloc (.cells #[.int .i64 0, .int .i64 0] 23)).alloc (.cells #[.int .i64 x0, .int .i64 x1] 23) = W := ⟨_, rfl⟩
  rw [hW]
  have hB : Below w.heap.size w W := hW ▸ below_alloc (below_alloc (Below.refl _ w) _) _
  have y4 : W.heap[w.heap.size]? = some (.cells #[.int .i64 0, .int .i64 0] 23) := hW ▸ blk_alloc (blk_new _ _) _
  have y5 : W.heap[w.heap.size + 1]? = some (.cells #[.int .i64 x0, .int .i64 x1] 23) := hW ▸ blk_new_at _ _ (by simp)
  have n45 : w.heap.size + 1 ≠ w.heap.size := by omega
  have hle : w.heap.size ≤ w.heap.size + 1 := by omega
  clear hW hc0 hc1 hcut
  generalize w.heap.size + 1 = G5 at *
  obtain ⟨G4, hG4⟩ : ∃ G, G = w.heap.size := ⟨_, rfl⟩
  rw [← hG4] at y4 n45 ⊢
  have hle4 : w.heap.size ≤ G4 := Nat.le_of_eq hG4.symm
  have HG4 := Aside0.mk hG4
  clear hG4
  have Y4 := Aside0.mk y4
  have Y5 := Aside0.mk y5
  have HB := Aside0.mk hB
  clear y4 y5 hB
  go_loopg [14] m (fun gg s14 wr => ∃ (kk : Nat) (p q : Int), kk ≤ m ∧ m - kk ≤ gg ∧ s14 = .int .i64 kk ∧ Aside0 (Below w.heap.size w wr) ∧ Aside0 (wr.heap[G4]? = some (.cells #[.int .i64 0, .int .i64 0] 23))
      ∧ Aside0 (wr.heap[G5]? = some (.cells #[.int .i64 p, .int .i64 q] 23)) ∧ Aside0 ((l.drop kk).foldl hull (p, q) = l.foldl hull (x0, x1)))
  case atStart => exact ⟨0, x0, x1, by omega, by omega, rfl, HB, Y4, Y5, ⟨rfl⟩⟩
  case round =>
    clear HB Y4 Y5
    obtain ⟨kk, p, q, hkk, hg, rfl, HB, Y4, Y5, HF⟩ := hrel
    by_cases hlt : kk < m
    · have hltz : (kk : Int) < (m : Int) := by omega
      obtain ⟨ad', x', rfl, hx', hc0, hc1⟩ := C_span (Kd.C_below HT.out HB.out) kk hlt
      obtain ⟨u0, u1⟩ := x'
      simp only at hc0 hc1
      have HF2 : Aside0 ((l.drop (kk + 1)).foldl hull (hull (p, q) (u0, u1)) = l.foldl hull (x0, x1)) := ⟨by
        have := HF.out
        rw [List.drop_eq_getElem_cons (by rw [HL.out]; exact hlt)] at this
        rw [List.getElem?_eq_getElem (by rw [HL.out]; exact hlt)] at hx'
        rw [Option.some.inj hx'] at this
        exact this⟩
      clear hx' HF
      have b5 := blk_alloc Y5.out (.cells #[.int .i64 u0, .int .i64 u1] 23)
      have c50 := (blk_cell b5 0).trans rfl
      have c51 := (blk_cell b5 1).trans rfl
      have f50 := blk_frozen b5 0
      have f51 := blk_frozen b5 1
      have B5 := Aside0.mk b5
      have B4 := Aside0.mk (blk_alloc Y4.out (.cells #[.int .i64 u0, .int .i64 u1] 23))
      have HB2 := Aside0.mk (below_alloc HB.out (.cells #[.int .i64 u0, .int .i64 u1] 23))
      clear b5 Y4 Y5 HB
      go_wp2_with fail
      generalize wr.alloc (.cells #[.int .i64 u0, .int .i64 u1] 23) = w2 at *
      refine (both_calls (p, q) (u0, u1) w2).mono ?_
      rintro e w3 ⟨rfl, hb⟩
      have b5 := blk_below B5.out hb
      have b4 := blk_below B4.out hb
      have hb3 := below_step HB2.out hb
      clear hb c50 c51 f50 f51 hc0 hc1
      have c50 := (blk_cell b5 0).trans rfl
      have c51 := (blk_cell b5 1).trans rfl
      have f50 := blk_frozen b5 0
      have f51 := blk_frozen b5 1
      have C5 := Aside0.mk b5
      have C4 := Aside0.mk b4
      have HB3 := Aside0.mk hb3
      clear b4 b5 hb3 B4 B5 HB2
      obtain ⟨⟨r0, r1⟩, hR⟩ : ∃ r, r = hull (p, q) (u0, u1) := ⟨_, rfl⟩
      rw [← hR] at HF2 ⊢
      clear hR
      unfold spanV
      simp only
      go_wp2
      go_roundg (m - (kk + 1))
      case measure => omega
      case rel =>
        refine ⟨kk + 1, r0, r1, by omega, by omega, by go_num, ⟨below_set (below_set HB3.out hle) hle⟩, ⟨?_⟩, ⟨?_⟩, HF2⟩
        · exact blk_far (blk_far C4.out (Ne.symm n45) _) (Ne.symm n45) _
        · refine blk_put (cs := #[.int .i64 r0, .int .i64 q]) ?_ 1 _ rfl
          exact blk_put (cs := #[.int .i64 p, .int .i64 q]) C5.out 0 _ rfl
    · have hltz : ¬ (kk : Int) < (m : Int) := by omega
      obtain rfl : kk = m := by omega
      have hF : (p, q) = l.foldl hull (x0, x1) := by
        have := HF.out
        rw [List.drop_of_length_le (by rw [HL.out]; omega)] at this
        exact this
      have HF2 := Aside0.mk hF
      have c50 := (blk_cell Y5.out 0).trans rfl
      have c51 := (blk_cell Y5.out 1).trans rfl
      have c40 := (blk_cell Y4.out 0).trans rfl
      have c41 := (blk_cell Y4.out 1).trans rfl
      have f40 := blk_frozen Y4.out 0
      have f41 := blk_frozen Y4.out 1
      clear hF HF
      go_wp2
      refine bodyPost_ret (results_cell_row rfl _ _ G4 23 #[.int .i64 p, .int .i64 q] (0, 0) _ rfl (by
        refine blk_put (cs := #[.int .i64 p, .int .i64 0]) ?_ 1 _ rfl
        exact blk_put (cs := #[.int .i64 0, .int .i64 0]) Y4.out 0 _ rfl) Tryd.underlying23 rfl (by kernel_rfl)) rfl ?_
      exact ⟨by rw [← HF2.out]; rfl, below_set (below_set HB.out hle4) hle4⟩
end Go.Proofs.YtaijhbliagjeaaaDoor
