/- Printed for this claim by this session's own driver over the kit's printer: the machine side of plain functions: what each returns, and that it leaves memory below its own blocks alone. -/
import Derived.Test.YtfgclmbndgakgaaDoorPFx0
import Derived.Test.YtfgclmbndgakgaaDoorPFx1
import Derived.Test.YtfgclmbndgakgaaDoorPFx2
import Derived.Test.YtfgclmbndgakgaaDoorPFx3a
namespace Go.Proofs.YtfgclmbndgakgaaDoor.PF
open Go.RowKit Go.Proofs.YtfgclmbndgakgaaDoorW.PrintWords Go.Proofs.YtfgclmbndgakgaaDoorW.PrintLast Go.Proofs.YtfgclmbndgakgaaDoor.PA Go.Proofs.YtfgclmbndgakgaaDoor.PC1 Go.Proofs.YtfgclmbndgakgaaDoor.PR Go.Proofs.YtfgclmbndgakgaaDoorW.PrintMore
attribute [local go_sem] max2_int min2_int max_two min_two max_three min_three max_four min_four   -- for this text's walks alone
set_option linter.unusedVariables false
set_option linter.unusedSimpArgs false
attribute [local go_sem high] eqA23

set_option maxHeartbeats 100000000 in
set_option maxRecDepth 100000 in
theorem cottonpadlaw04_BurnFouled.calls (k : Nat) (a0_0 : Int) (a0_1 : Int) (A1 : Option Addr) (c1 : Nat) (l1 : List Int) (A2 : Option Addr) (c2 : Nat) (l2 : List Int) (a3 : Int) (a4 : Int) (r : Bool) (w : World) (hr1 : Kd.C (Kd.int .i64) w A1 l1.length l1) (hc1 : l1.length ≤ c1) (hr2 : Kd.C (Kd.int .u32) w A2 l2.length l2) (hc2 : l2.length ≤ c2) (hG : GlobOK w) (h : cottonpadlaw04_BurnFouled.f k a0_0 a0_1 l1 l2 a3 a4 = some r) :
  Calls Tryd.prog 10 #[.agg #[.int .i64 a0_0, .int .i64 a0_1], .slice A1 l1.length c1, .slice A2 l2.length c2, .int .u8 a3, .int .u8 a4] w fun e w' => e = .returned (.bool r) ∧ Below w.heap.size w w' := by
 have hu48 := Tryd.underlying48
 have hu23 := Tryd.underlying23
 have HG := A_ hG
 clear hG
 have HR1 := A_ hr1
 have HC1 := A_ hc1
 clear hr1 hc1
 have HR2 := A_ hr2
 have HC2 := A_ hc2
 clear hr2 hc2
 have HB := A_ (Below.refl w.heap.size w)
 have H : ((cottonpadlaw04_alive.f k).bind fun t109 => ((cottonpadref04_Great.f l1).bind fun t110 => (if t110 = true then (cottonpadlaw04_BurnFouled.j0 k l2 a3 a4 t109 true a0_0 a0_1 l1) else ((cottonpadref04_Lights.f k a0_0 a0_1 l1).bind fun t111 => (if t111 = 0 then (cottonpadlaw04_BurnFouled.j0 k l2 a3 a4 t109 (!t109) a0_0 a0_1 l1) else (cottonpadlaw04_BurnFouled.j0 k l2 a3 a4 t109 true a0_0 a0_1 l1)))))) = some r := h
 clear h
 replace H := Option.bind_eq_some_iff.mp H
 obtain ⟨t109, A60, H⟩ := H
 try dsimp only at H
 have A6 := A_ A60
 clear A60
 have HC7 := A_ H
 clear H
 go_enter Tryd.func10, Tryd.ntmps10
 go_upto_region 2 with (first | ((with_reducible refine gate_dst (N := 5) rfl ?_); refine box_event ?hg (N := 5) ?hd (cs := #[.int .i64 a0_0, .int .i64 a0_1]) (t := 48) ?hr ?_; (case hd => rfl); (case hg => rfl); (case hr => first | (go_simp; done) | (go_simp; rfl)); intro gb107 hg w8 hbox hb; have n0_ := A_ (below_step (by repeat (first | (with_reducible first | exact HB.out | apply below_alloc | apply pw_below_drewN | apply below_drew1) | exact HB.out)) hb); have n1_ := A_ (hbox); have n2_ := A_ ((by rw [hg]; exact (below_size (by repeat (first | (with_reducible first | exact HB.out | apply below_alloc | apply pw_below_drewN | apply below_drew1) | exact HB.out))) : w.heap.size ≤ gb107)); have n3_ := A_ ((by rw [hg]; exact (below_size (by repeat (first | (with_reducible first | exact HB.out | apply below_alloc | apply pw_below_drewN | apply below_drew1) | exact HB.out))) : w.heap.size ≤ gb107)); clear HB; have HB := n0_; have BK107 := n1_; have GW107 := n2_; have GE107 := n3_; clear n0_ n1_ n2_ n3_; clear hb hbox hg) | ((with_reducible refine gate_dst (N := 6) rfl ?_); refine box_event ?hg (N := 6) ?hd (cs := #[.slice A1 l1.length c1]) (t := 26) ?hr ?_; (case hd => rfl); (case hg => rfl); (case hr => first | (go_simp; done) | (go_simp; rfl)); intro gb108 hg w9 hbox hb; have n0_ := bb_ BK107.out hb; have n1_ := A_ (below_step (by repeat (first | (with_reducible first | exact HB.out | apply below_alloc | apply pw_below_drewN | apply below_drew1 | refine below_set ?_ GE107.out) | exact HB.out)) hb); have n2_ := A_ (hbox); have n3_ := A_ ((by rw [hg]; exact (below_size (by repeat (first | (with_reducible first | exact HB.out | apply below_alloc | apply pw_below_drewN | apply below_drew1 | refine below_set ?_ GE107.out) | exact HB.out))) : w.heap.size ≤ gb108)); have n4_ := A_ ((by rw [hg]; exact (below_size (by repeat (first | (with_reducible first | exact HB.out | apply below_alloc | apply pw_below_drewN | apply below_drew1 | refine below_set ?_ GE107.out) | exact HB.out))) : w.heap.size ≤ gb108)); have n5_ := A_ ((by rw [hg]; exact Nat.ne_of_lt (blk_lt (g := gb107) (o := .cells #[.int .i64 a0_0, .int .i64 a0_1] 48 (0, 0)) (bk_ BK107.out)) : gb107 ≠ gb108)); have n6_ := A_ ((by rw [hg]; exact Nat.ne_of_gt (blk_lt (g := gb107) (o := .cells #[.int .i64 a0_0, .int .i64 a0_1] 48 (0, 0)) (bk_ BK107.out)) : gb108 ≠ gb107)); clear BK107; clear HB; have BK107 := n0_; have HB := n1_; have BK108 := n2_; have GW108 := n3_; have GE108 := n4_; have NB107_108 := n5_; have NB108_107 := n6_; clear n0_ n1_ n2_ n3_ n4_ n5_ n6_; clear hb hbox hg) | ((with_reducible refine gate_callee (f := 21) rfl ?_); refine goesL_ (some 29) rfl rfl Tryd.func21 (by kernel_rfl) rfl #[] rfl (by (try simp only [List.map_toArray, List.map_cons, List.map_nil]); first | done | rfl | (simp only [List.length_drop, List.length_take]; rfl)) ?_; (with_reducible refine (cottonpadlaw04_alive.calls k  t109 _ ?side1 A6.out).mono ?_); (case side1 => exact GlobOK.below HG.out (by repeat (first | (with_reducible first | exact HB.out | apply below_alloc | apply pw_below_drewN | apply below_drew1 | refine below_set ?_ GE107.out | refine below_set ?_ GE108.out) | exact HB.out))); rintro e w10 ⟨rfl, hb⟩; refine ⟨_, rfl, ?_⟩; have n0_ := bb_ BK107.out hb; have n1_ := bb_ BK108.out hb; have n2_ := A_ (below_step (by repeat (first | (with_reducible first | exact HB.out | apply below_alloc | apply pw_below_drewN | apply below_drew1 | refine below_set ?_ GE107.out | refine below_set ?_ GE108.out) | exact HB.out)) hb); clear BK107; clear BK108; clear HB; have BK107 := n0_; have BK108 := n1_; have HB := n2_; clear n0_ n1_ n2_; (try clear hb); (try clear hb2); (try clear hk); (try clear hi)))
 (try simp only [Act.put, List.setIfInBounds_toArray, List.set_cons_zero, List.set_cons_succ])
 go_cut [41] (fun v41 wc => ∃ (kq : Nat) (x41_6 : Bool), v41 = .bool x41_6 ∧ Aside0 (cottonpadlaw04_BurnFouled.j0 kq l2 a3 a4 t109 x41_6 a0_0 a0_1 l1 = some r) ∧ Aside0 (kq ≤ k) ∧ Aside0 (wc.heap[gb107]? = some (.cells #[.int .i64 a0_0, .int .i64 a0_1] 48 (0, 0))) ∧ Aside0 (wc.heap[gb108]? = some (.cells #[(.slice A1 l1.length c1)] 26 (0, 0))) ∧ Aside0 (Below w.heap.size w wc))
 case first =>
  have H := HC7.out
  clear HC7
  replace H := Option.bind_eq_some_iff.mp H
  obtain ⟨t110, A110, H⟩ := H
  try dsimp only at H
  have A11 := A_ A110
  clear A110
  by_cases c12 : t110 = true
  ·
   subst c12
   have H1 : (cottonpadlaw04_BurnFouled.j0 k l2 a3 a4 t109 true a0_0 a0_1 l1) = some r := by rw [if_pos rfl] at H; exact H
   clear H
   have H := H1
   clear H1
   have H' := A_ H
   clear H
   have hnb13 := NB108_107.out
   have hnc13 := NB107_108.out
   have hcz14_0 : w10.cell? ⟨gb108, 0, none⟩ = some (.slice A1 l1.length c1) := (blk_cell BK108.out 0).trans rfl
   have hfz14_0 := blk_frozen BK108.out 0
   go_wp2_with (first | ((with_reducible refine gate_callee (f := 11) rfl ?_); refine goesL_ (some 31) rfl rfl Tryd.func11 (by kernel_rfl) rfl #[.slice A1 l1.length c1] rfl (by (try simp only [List.map_toArray, List.map_cons, List.map_nil]); first | done | rfl | (simp only [List.length_drop, List.length_take]; rfl)) ?_; (with_reducible refine (cottonpadref04_Great.calls _ _ l1 true _ ?side1 ?side2 A11.out).mono ?_); (case side1 => repeat (first | exact (Kd.C_below HR1.out HB.out) | (with_reducible refine Kd.C_alloc ?_ _) | (with_reducible refine Kd.C_drewN ?_ _) | (with_reducible refine Kd.C_drew ?_))); (case side2 => exact HC1.out); rintro e w' ⟨rfl, ⟨nd, rfl⟩⟩; refine ⟨_, rfl, ?_⟩))
   go_meet
   case rel => exact ⟨_, (true), (by first | rfl | (simp; done) | (simp [*]; done)), H', ⟨by first | omega | exact Nat.le_refl _⟩, ⟨by (with_reducible repeat (first | refine blk_drewN ?_ _ | refine blk_drew ?_ | refine blk_alloc ?_ _)); exact BK107.out⟩, ⟨by (with_reducible repeat (first | refine blk_drewN ?_ _ | refine blk_drew ?_ | refine blk_alloc ?_ _)); exact BK108.out⟩, ⟨by repeat (first | (with_reducible first | exact HB.out | apply below_alloc | apply pw_below_drewN | apply below_drew1 | refine below_set ?_ GE107.out | refine below_set ?_ GE108.out) | exact HB.out)⟩⟩
  ·
   replace c12 := Bool.eq_false_iff.mpr c12
   subst c12
   have H1 : ((cottonpadref04_Lights.f k a0_0 a0_1 l1).bind fun t111 => (if t111 = 0 then (cottonpadlaw04_BurnFouled.j0 k l2 a3 a4 t109 (!t109) a0_0 a0_1 l1) else (cottonpadlaw04_BurnFouled.j0 k l2 a3 a4 t109 true a0_0 a0_1 l1))) = some r := by rw [if_neg (show ¬ (false = true) by decide)] at H; exact H
   clear H
   have H := H1
   clear H1
   replace H := Option.bind_eq_some_iff.mp H
   obtain ⟨t111, A150, H⟩ := H
   try dsimp only at H
   have A15 := A_ A150
   clear A150
   by_cases c16 : t111 = 0
   ·
    rw [if_pos c16] at H
    have c16b0 : (t111 == 0) = true := beq_iff_eq.mpr c16
    have c16b1 : (t111 != 0) = false := bne_eq_false_iff_eq.mpr c16
    clear c16
    (first | rw [c16b0] | (simp only [i64_w, i32_w]; rw [c16b0]) | skip)
    have H' := A_ H
    clear H
    have hnb17 := NB108_107.out
    have hnc17 := NB107_108.out
    have hcz18_0 : w10.cell? ⟨gb108, 0, none⟩ = some (.slice A1 l1.length c1) := (blk_cell BK108.out 0).trans rfl
    have hfz18_0 := blk_frozen BK108.out 0
    go_wp2_with (first | ((with_reducible refine gate_callee (f := 11) rfl ?_); refine goesL_ (some 31) rfl rfl Tryd.func11 (by kernel_rfl) rfl #[.slice A1 l1.length c1] rfl (by (try simp only [List.map_toArray, List.map_cons, List.map_nil]); first | done | rfl | (simp only [List.length_drop, List.length_take]; rfl)) ?_; (with_reducible refine (cottonpadref04_Great.calls _ _ l1 false _ ?side1 ?side2 A11.out).mono ?_); (case side1 => repeat (first | exact (Kd.C_below HR1.out HB.out) | (with_reducible refine Kd.C_alloc ?_ _) | (with_reducible refine Kd.C_drewN ?_ _) | (with_reducible refine Kd.C_drew ?_))); (case side2 => exact HC1.out); rintro e w' ⟨rfl, ⟨nd, rfl⟩⟩; refine ⟨_, rfl, ?_⟩; have hcz19_0 : w10.cell? ⟨gb107, 0, none⟩ = some (.int .i64 a0_0) := (blk_cell BK107.out 0).trans rfl; have hcz19_1 : w10.cell? ⟨gb107, 1, none⟩ = some (.int .i64 a0_1) := (blk_cell BK107.out 1).trans rfl; have hfz19_0 := blk_frozen BK107.out 0; have hfz19_1 := blk_frozen BK107.out 1) | (go_at_call 37; (with_reducible refine (cottonpadref04_Lights.calls k a0_0 a0_1 _ _ l1 t111 _ ?side1 ?side2 A15.out).mono ?_); (case side1 => repeat (first | exact (Kd.C_below HR1.out (by repeat (first | (with_reducible first | exact HB.out | apply below_alloc | apply pw_below_drewN | apply below_drew1 | refine below_set ?_ GE107.out | refine below_set ?_ GE108.out) | exact HB.out))) | (with_reducible refine Kd.C_alloc ?_ _) | (with_reducible refine Kd.C_drewN ?_ _) | (with_reducible refine Kd.C_drew ?_))); (case side2 => exact HC1.out); rintro e w20 ⟨rfl, hb⟩; have n0_ := bb_ BK107.out hb; have n1_ := bb_ BK108.out hb; have n2_ := A_ (below_step (by repeat (first | (with_reducible first | exact HB.out | apply below_alloc | apply pw_below_drewN | apply below_drew1 | refine below_set ?_ GE107.out | refine below_set ?_ GE108.out) | exact HB.out)) hb); clear BK107; clear BK108; clear HB; have BK107 := n0_; have BK108 := n1_; have HB := n2_; clear n0_ n1_ n2_; (try clear hb); (try clear hb2); (try clear hk); (try clear hi)))
    go_meet
    case rel => exact ⟨_, (!t109), (by first | rfl | (simp; done) | (simp [*]; done)), H', ⟨by first | omega | exact Nat.le_refl _⟩, ⟨by (with_reducible repeat (first | refine blk_drewN ?_ _ | refine blk_drew ?_ | refine blk_alloc ?_ _)); exact BK107.out⟩, ⟨by (with_reducible repeat (first | refine blk_drewN ?_ _ | refine blk_drew ?_ | refine blk_alloc ?_ _)); exact BK108.out⟩, ⟨by repeat (first | (with_reducible first | exact HB.out | apply below_alloc | apply pw_below_drewN | apply below_drew1 | refine below_set ?_ GE107.out | refine below_set ?_ GE108.out) | exact HB.out)⟩⟩
   ·
    rw [if_neg c16] at H
    have c16b0 : (t111 == 0) = false := beq_eq_false_iff_ne.mpr c16
    have c16b1 : (t111 != 0) = true := bne_iff_ne.mpr c16
    (first | rw [c16b0] | (simp only [i64_w, i32_w]; rw [c16b0]) | skip)
    have H' := A_ H
    clear H
    have hnb21 := NB108_107.out
    have hnc21 := NB107_108.out
    have hcz22_0 : w10.cell? ⟨gb108, 0, none⟩ = some (.slice A1 l1.length c1) := (blk_cell BK108.out 0).trans rfl
    have hfz22_0 := blk_frozen BK108.out 0
    go_wp2_with (first | ((with_reducible refine gate_callee (f := 11) rfl ?_); refine goesL_ (some 31) rfl rfl Tryd.func11 (by kernel_rfl) rfl #[.slice A1 l1.length c1] rfl (by (try simp only [List.map_toArray, List.map_cons, List.map_nil]); first | done | rfl | (simp only [List.length_drop, List.length_take]; rfl)) ?_; (with_reducible refine (cottonpadref04_Great.calls _ _ l1 false _ ?side1 ?side2 A11.out).mono ?_); (case side1 => repeat (first | exact (Kd.C_below HR1.out HB.out) | (with_reducible refine Kd.C_alloc ?_ _) | (with_reducible refine Kd.C_drewN ?_ _) | (with_reducible refine Kd.C_drew ?_))); (case side2 => exact HC1.out); rintro e w' ⟨rfl, ⟨nd, rfl⟩⟩; refine ⟨_, rfl, ?_⟩; have hcz23_0 : w10.cell? ⟨gb107, 0, none⟩ = some (.int .i64 a0_0) := (blk_cell BK107.out 0).trans rfl; have hcz23_1 : w10.cell? ⟨gb107, 1, none⟩ = some (.int .i64 a0_1) := (blk_cell BK107.out 1).trans rfl; have hfz23_0 := blk_frozen BK107.out 0; have hfz23_1 := blk_frozen BK107.out 1) | (go_at_call 37; (with_reducible refine (cottonpadref04_Lights.calls k a0_0 a0_1 _ _ l1 t111 _ ?side1 ?side2 A15.out).mono ?_); (case side1 => repeat (first | exact (Kd.C_below HR1.out (by repeat (first | (with_reducible first | exact HB.out | apply below_alloc | apply pw_below_drewN | apply below_drew1 | refine below_set ?_ GE107.out | refine below_set ?_ GE108.out) | exact HB.out))) | (with_reducible refine Kd.C_alloc ?_ _) | (with_reducible refine Kd.C_drewN ?_ _) | (with_reducible refine Kd.C_drew ?_))); (case side2 => exact HC1.out); rintro e w24 ⟨rfl, hb⟩; have n0_ := bb_ BK107.out hb; have n1_ := bb_ BK108.out hb; have n2_ := A_ (below_step (by repeat (first | (with_reducible first | exact HB.out | apply below_alloc | apply pw_below_drewN | apply below_drew1 | refine below_set ?_ GE107.out | refine below_set ?_ GE108.out) | exact HB.out)) hb); clear BK107; clear BK108; clear HB; have BK107 := n0_; have BK108 := n1_; have HB := n2_; clear n0_ n1_ n2_; (try clear hb); (try clear hb2); (try clear hk); (try clear hi)))
    go_meet
    case rel => exact ⟨_, (true), (by first | rfl | (simp; done) | (simp [*]; done)), H', ⟨by first | omega | exact Nat.le_refl _⟩, ⟨by (with_reducible repeat (first | refine blk_drewN ?_ _ | refine blk_drew ?_ | refine blk_alloc ?_ _)); exact BK107.out⟩, ⟨by (with_reducible repeat (first | refine blk_drewN ?_ _ | refine blk_drew ?_ | refine blk_alloc ?_ _)); exact BK108.out⟩, ⟨by repeat (first | (with_reducible first | exact HB.out | apply below_alloc | apply pw_below_drewN | apply below_drew1 | refine below_set ?_ GE107.out | refine below_set ?_ GE108.out) | exact HB.out)⟩⟩
 case rest =>
  clear HC7
  try clear c1
  try clear c2
  try clear p2
  try clear c10
  try clear c11
  try clear c12
  try clear c13
  try clear c16
  try clear c16b0
  try clear c16b1
  try clear c17
  try clear c21
  try clear hcz14_0
  try clear hcz18_0
  try clear hcz19_0
  try clear hcz19_1
  try clear hcz22_0
  try clear hcz23_0
  try clear hcz23_1
  try clear hfz14_0
  try clear hfz18_0
  try clear hfz19_0
  try clear hfz19_1
  try clear hfz22_0
  try clear hfz23_0
  try clear hfz23_1
  obtain ⟨kq, x41_6, rfl, HA, HJ6, BK107, BK108, HB⟩ := hcut
  cases kq with
  | zero => exact absurd HA.out (by simp [cottonpadlaw04_BurnFouled.j0])
  | succ kj6 =>
   have H := HA.out
   clear HA
   simp only [cottonpadlaw04_BurnFouled.j0] at H
   by_cases c25 : x41_6 = true
   ·
    subst c25
    have H1 : (some t109) = some r := by rw [if_pos rfl] at H; exact H
    clear H
    have H := H1
    clear H1
    obtain rfl := Option.some.inj H
    go_wp2
    go_ret
    exact ⟨by first | rfl | (simp [errW_none, errW_some] <;> rfl) | (simp [*, errW_none, errW_some] <;> rfl), by repeat (first | (with_reducible first | exact HB.out | apply below_alloc | apply pw_below_drewN | apply below_drew1 | refine below_set ?_ GE107.out | refine below_set ?_ GE108.out) | exact HB.out)⟩
   ·
    replace c25 := Bool.eq_false_iff.mpr c25
    subst c25
    have H1 : (if 0 ≤ (l1.length : Int) then (if ((l1.length : Int) : Int).toNat ≤ 35184372088832 then (cottonpadlaw04_BurnFouled.l0 kj6 l2 a3 a4 t109 (l1.length : Int) (List.replicate ((l1.length : Int) : Int).toNat 0) a0_1 (wrap64 ((l1.length : Int) - 1)) a0_0 a0_1 l1) else (none)) else (none)) = some r := by rw [if_neg (show ¬ (false = true) by decide)] at H; exact H
    clear H
    have H := H1
    clear H1
    by_cases c26 : 0 ≤ (l1.length : Int)
    ·
     rw [if_pos c26] at H
     have c26b0 := eq_true c26
     have c26b1 : decide (0 ≤ (l1.length : Int)) = true := decide_eq_true c26
     clear c26
     by_cases c27 : ((l1.length : Int) : Int).toNat ≤ 35184372088832
     ·
      rw [if_pos c27] at H
      have c27b0 := eq_true c27
      have c27b1 : decide (((l1.length : Int) : Int).toNat ≤ 35184372088832) = true := decide_eq_true c27
      clear c27
      obtain ⟨y112, hy112⟩ : ∃ y_ : List Int, y_ = (List.replicate ((l1.length : Int) : Int).toNat 0) := ⟨_, rfl⟩
      replace H : (cottonpadlaw04_BurnFouled.l0 kj6 l2 a3 a4 t109 (l1.length : Int) y112 a0_1 (wrap64 ((l1.length : Int) - 1)) a0_0 a0_1 l1) = some r := by first | (rw [hy112]; with_reducible exact H) | (have H2_ := (Option.bind_some _ _).symm.trans H; rw [hy112]; with_reducible exact H2_) | (have H2_ := (Option.bind_some _ _).symm.trans H; with_reducible exact H2_) | with_reducible exact H | (rw [hy112]; exact H) | exact H
      have Ny112 := A_ hy112
      clear hy112
      have H' := A_ H
      clear H
      have hnb28 := NB108_107.out
      have hnc28 := NB107_108.out
      have hcz29_0 : wc.cell? ⟨gb108, 0, none⟩ = some (.slice A1 l1.length c1) := (blk_cell BK108.out 0).trans rfl
      have hfz29_0 := blk_frozen BK108.out 0
      go_wp2_with (first | ((with_reducible refine gate_dst (N := 46) rfl ?_); refine Kd.R_make (Kd.int .i64) _ 3 rfl (N := 46) rfl 26 _ _ rfl (l1.length : Int) rfl rfl Tryd.underlying26 (.int .i64 0) 8 info3 rfl (by decide) (by omega) 0 (ok := fun _ => True) (okp := fun _ => True) rfl (fun _ hk => hk) trivial (of_decide_eq_true (by first | (with_reducible assumption) | assumption)) (Nat.le_trans (Nat.mul_le_mul_right _ (of_decide_eq_true (by first | (with_reducible assumption) | assumption) : (l1.length : Int).toNat ≤ 35184372088832)) (by omega)) (Below.refl _ _) (Nat.le_refl _) ?_; intro v113 w30 ho31 hb hg_ hnew_; clear hg_ hnew_; (first | rw [← Ny112.out] at ho31 | (simp only [Int.reduceToNat] at ho31; rw [← Ny112.out] at ho31)); have n0_ := A_ (Kd.R_lower ho31 (below_size (by repeat (first | (with_reducible first | exact HB.out | apply below_alloc | apply pw_below_drewN | apply below_drew1 | refine below_set ?_ GE107.out | refine below_set ?_ GE108.out) | exact HB.out)))); have n1_ := bb_ BK107.out hb; have n2_ := bb_ BK108.out hb; have n3_ := A_ (below_step (by repeat (first | (with_reducible first | exact HB.out | apply below_alloc | apply pw_below_drewN | apply below_drew1 | refine below_set ?_ GE107.out | refine below_set ?_ GE108.out) | exact HB.out)) hb); clear BK107; clear BK108; clear HB; have HO114 := n0_; have BK107 := n1_; have BK108 := n2_; have HB := n3_; clear n0_ n1_ n2_ n3_; clear hb ho31; have hcz32_0 : w30.cell? ⟨gb107, 0, none⟩ = some (.int .i64 a0_0) := (blk_cell BK107.out 0).trans rfl; have hcz32_1 : w30.cell? ⟨gb107, 1, none⟩ = some (.int .i64 a0_1) := (blk_cell BK107.out 1).trans rfl; have hfz32_0 := blk_frozen BK107.out 0; have hfz32_1 := blk_frozen BK107.out 1))
      go_loopg [14, 15] kj6 (fun kq v14 v15 w' => ∃ (x13_2 : List Int) (x14_2 : Int) (x15_2 : Int), v14 = .int .i64 x14_2 ∧ v15 = .int .i64 x15_2 ∧ Aside0 (cottonpadlaw04_BurnFouled.l0 kq l2 a3 a4 t109 (l1.length : Int) x13_2 x14_2 x15_2 a0_0 a0_1 l1 = some r) ∧ Aside0 (kq ≤ kj6) ∧ Aside0 (Kd.R (Kd.int .i64) 3 w' w.heap.size (fun _ => True) v113 x13_2) ∧ Aside0 (w'.heap[gb107]? = some (.cells #[.int .i64 a0_0, .int .i64 a0_1] 48 (0, 0))) ∧ Aside0 (w'.heap[gb108]? = some (.cells #[(.slice A1 l1.length c1)] 26 (0, 0))) ∧ Aside0 (Below w.heap.size w w'))
      case atStart => exact ⟨(y112), (a0_1), (wrap64 ((l1.length : Int) - 1)), (by first | rfl | (simp; done) | (simp [*]; done)), (by first | rfl | (simp; done) | (simp [*]; done)), H', ⟨Nat.le_refl _⟩, ⟨by (with_reducible repeat (first | apply Kd.R_alloc | apply Kd.R_drewN | apply Kd.R_drew)); exact HO114.out⟩, ⟨by (with_reducible repeat (first | refine blk_drewN ?_ _ | refine blk_drew ?_ | refine blk_alloc ?_ _)); exact BK107.out⟩, ⟨by (with_reducible repeat (first | refine blk_drewN ?_ _ | refine blk_drew ?_ | refine blk_alloc ?_ _)); exact BK108.out⟩, ⟨by repeat (first | (with_reducible first | exact HB.out | apply below_alloc | apply pw_below_drewN | apply below_drew1 | refine below_set ?_ GE107.out | refine below_set ?_ GE108.out) | exact HB.out)⟩⟩
      case round =>
       clear H'
       try clear c1
       try clear c2
       try clear p2
       try clear p6
       try clear c10
       try clear c11
       try clear c12
       try clear c13
       try clear c16
       try clear c16b0
       try clear c16b1
       try clear c17
       try clear c21
       try clear c25
       try clear c26
       try clear c26b0
       try clear c26b1
       try clear c27
       try clear c27b0
       try clear c27b1
       try clear c28
       try clear hcz14_0
       try clear hcz18_0
       try clear hcz19_0
       try clear hcz19_1
       try clear hcz22_0
       try clear hcz23_0
       try clear hcz23_1
       try clear hcz29_0
       try clear hcz32_0
       try clear hcz32_1
       try clear hfz14_0
       try clear hfz18_0
       try clear hfz19_0
       try clear hfz19_1
       try clear hfz22_0
       try clear hfz23_0
       try clear hfz23_1
       try clear hfz29_0
       try clear hfz32_0
       try clear hfz32_1
       try clear p2
       obtain ⟨x13_2, x14_2, x15_2, rfl, rfl, HA, HK2, HO_13, BK107, BK108, HB⟩ := hrel
       cases gk with
       | zero => exact absurd HA.out (by simp [cottonpadlaw04_BurnFouled.l0])
       | succ k2 =>
        have H := HA.out
        clear HA
        simp only [cottonpadlaw04_BurnFouled.l0] at H
        by_cases c33 : x15_2 ≥ 0
        ·
         rw [if_pos c33] at H
         have c33b0 : decide (0 ≤ x15_2) = true := decide_eq_true c33
         clear c33
         by_cases c34 : 0 ≤ x15_2
         ·
          rw [if_pos c34] at H
          have c34b0 : decide (0 ≤ x15_2) = true := decide_eq_true c34
          clear c34
          by_cases c35 : x15_2 < (l1.length : Int)
          ·
           rw [if_pos c35] at H
           have c35b0 : decide (x15_2 < (l1.length : Int)) = true := decide_eq_true c35
           clear c35
           obtain ⟨ji36, hji36⟩ : ∃ j_ : Int, (mx x14_2 (rd l1 x15_2)) = j_ := ⟨_, rfl⟩
           replace H : (if x15_2 < (x13_2.length : Int) then (cottonpadlaw04_BurnFouled.l0 k2 l2 a3 a4 t109 (l1.length : Int) (x13_2.set (x15_2 : Int).toNat (ji36)) ji36 (wrap64 (x15_2 - 1)) a0_0 a0_1 l1) else (none)) = some r := by first | (rw [hji36] at H; exact H) | (simp only [hji36] at H ⊢; exact H)
           have hji36_ : (if x14_2 < (rd l1 x15_2) then (rd l1 x15_2) else x14_2) = ji36 := hji36
           by_cases c37 : x15_2 < (x13_2.length : Int)
           ·
            rw [if_pos c37] at H
            have c37b0 : decide (x15_2 < (x13_2.length : Int)) = true := decide_eq_true c37
            clear c37
            obtain ⟨y116, hy116⟩ : ∃ y_ : List Int, y_ = (x13_2.set (x15_2 : Int).toNat (ji36)) := ⟨_, rfl⟩
            replace H : (cottonpadlaw04_BurnFouled.l0 k2 l2 a3 a4 t109 (l1.length : Int) y116 ji36 (wrap64 (x15_2 - 1)) a0_0 a0_1 l1) = some r := by first | (rw [hy116]; with_reducible exact H) | (have H2_ := (Option.bind_some _ _).symm.trans H; rw [hy116]; with_reducible exact H2_) | (have H2_ := (Option.bind_some _ _).symm.trans H; with_reducible exact H2_) | with_reducible exact H | (rw [hy116]; exact H) | exact H
            have Ny116 := A_ hy116
            clear hy116
            have H' := A_ H
            clear H
            have hnb39 := NB108_107.out
            have hnc39 := NB107_108.out
            have hcz40_0 : wr.cell? ⟨gb108, 0, none⟩ = some (.slice A1 l1.length c1) := (blk_cell BK108.out 0).trans rfl
            have hfz40_0 := blk_frozen BK108.out 0
            have p115 : 0 ≤ (x15_2 : Int) := of_decide_eq_true (by first | (with_reducible assumption) | assumption)
            have q115 : x15_2 < (l1.length : Int) := of_decide_eq_true (by first | (with_reducible assumption) | assumption)
            obtain ⟨ad115, e115, hx115_0⟩ := Kd.at_int HR1.out x15_2 p115 q115
            cases e115
            replace hx115_0 := (HB.out.cell (World.block_lt_of_cell? w _ hx115_0)).trans hx115_0
            replace p115 := eq_true p115
            replace q115 := eq_true q115
            have p38 : 0 ≤ (x15_2 : Int) := of_decide_eq_true (by first | (with_reducible assumption) | assumption)
            have q38 : (x15_2 : Int) < ((x13_2.length : Int) : Int) := of_decide_eq_true (by first | (with_reducible assumption) | assumption)
            obtain ⟨go38, co38, eo38, gb38, gl38, cl38, HG38⟩ := Kd.R_form HO_13.out (by omega)
            (first | cases eo38 | (injection eo38 with ea_ en_ ec_; (first | subst ea_ | (injection ea_ with ea_; subst ea_)); subst ec_; clear en_))
            have GB38 := A_ gb38
            have GG38 := A_ HG38
            clear gb38 gl38 HG38
            obtain ⟨hx38_0, hf38_0⟩ := Kd.R_celln 0 HO_13.out (x15_2 : Int) p38 q38
            replace p38 := eq_true p38
            replace q38 := eq_true q38
            have HP41 := Kd.R_putg HO_13.out (x15_2 : Int) ji36
            go_wp2_with (first | ((with_reducible refine gate_store (t := 3) (p := 64) rfl ?_); refine store_event (t := 3) (p := 64) (v := ?vo_w42) (w1 := (wr.setCell ⟨go38, (x15_2 : Int).toNat, none⟩ (.int .i64 ji36))) ?hg ?ho ?hn ?hr ?_; (case ho => rfl); (case hg => rfl); (case hn => rfl); (case hr => first | (go_simp; done) | (go_simp; rfl)); intro w42 hw; have hg : wr.grownBy w42 (some go38) := (by rw [hw]; exact HP41.2); have hp_ : Kd.R (Kd.int .i64) 3 w42 w.heap.size (fun _ => True) (.slice (some ⟨go38, 0, none⟩) x13_2.length co38) y116 := (by rw [hw, Ny116.out]; exact HP41.1); clear HP41; have n0_ := A_ (hp_); have n1_ := A_ (blk_grown (g := gb107) (o := .cells #[.int .i64 a0_0, .int .i64 a0_1] 48 (0, 0)) (bk_ BK107.out) hg (Kd.R_ne HO_13.out BK107.out (by decide))); have n2_ := A_ (blk_grown (g := gb108) (o := .cells #[.slice (some ad115) l1.length c1] 26 (0, 0)) (bk_ BK108.out) hg (Kd.R_ne HO_13.out BK108.out (by decide))); have n3_ := A_ ((by rw [hw]; exact below_set (HB.out) GB38.out : Below w.heap.size w w42)); clear HO_13; clear BK107; clear BK108; clear HB; have HO_13 := n0_; have BK107 := n1_; have BK108 := n2_; have HB := n3_; clear n0_ n1_ n2_ n3_; clear hg hw hp_))
            go_roundg k2
            case measure => have := HJ6.out; have := HK2.out; omega
            case rel => exact ⟨(y116), (ji36), (wrap64 (x15_2 - 1)), (by first | rfl | (simp; done) | (simp only [← hji36] <;> (first | rfl | simp)) | (simp [*]; done)), (by first | rfl | (simp; done) | (simp [*]; done)), H', ⟨by have := HJ6.out; have := HK2.out; omega⟩, ⟨by (with_reducible repeat (first | apply Kd.R_alloc | apply Kd.R_drewN | apply Kd.R_drew)); exact HO_13.out⟩, ⟨by (with_reducible repeat (first | refine blk_drewN ?_ _ | refine blk_drew ?_ | refine blk_alloc ?_ _)); exact BK107.out⟩, ⟨by (with_reducible repeat (first | refine blk_drewN ?_ _ | refine blk_drew ?_ | refine blk_alloc ?_ _)); exact BK108.out⟩, ⟨by repeat (first | (with_reducible first | exact HB.out | apply below_alloc | apply pw_below_drewN | apply below_drew1 | refine below_set ?_ GE107.out | refine below_set ?_ GE108.out) | exact HB.out)⟩⟩
           ·
            rw [if_neg c37] at H
            exact absurd H (by simp)
          ·
           rw [if_neg c35] at H
           exact absurd H (by simp)
         ·
          rw [if_neg c34] at H
          exact absurd H (by simp)
        ·
         rw [if_neg c33] at H
         have c33b0 : decide (0 ≤ x15_2) = false := decide_eq_false c33
         clear c33
         by_cases c43 : (wrap64 ((l1.length : Int) + 1)) = 0
         ·
          rw [if_pos c43] at H
          exact absurd H (by simp)
         ·
          rw [if_neg c43] at H
          have c43b0 : ((wrap64 ((l1.length : Int) + 1)) == 0) = false := beq_eq_false_iff_ne.mpr c43
          have c43b1 : ((wrap64 ((l1.length : Int) + 1)) != 0) = true := bne_iff_ne.mpr c43
          obtain ⟨ji44, hji44⟩ : ∃ j_ : Int, (mn (Int.tmod (wrap64 (a3)) (wrap64 ((l1.length : Int) + 1))) (Int.tmod (wrap64 (a4)) (wrap64 ((l1.length : Int) + 1)))) = j_ := ⟨_, rfl⟩
          replace H : (cottonpadlaw04_BurnFouled.l1 k2 l2 t109 x13_2 ji44 (mx (Int.tmod (wrap64 (a3)) (wrap64 ((l1.length : Int) + 1))) (Int.tmod (wrap64 (a4)) (wrap64 ((l1.length : Int) + 1)))) a0_0 0 (l1.length : Int) 0 a0_0 a0_1 l1 0 0) = some r := by first | (rw [hji44] at H; exact H) | (simp only [hji44] at H ⊢; exact H)
          have hji44_ : (if (Int.tmod (wrap64 (a4)) (wrap64 ((l1.length : Int) + 1))) < (Int.tmod (wrap64 (a3)) (wrap64 ((l1.length : Int) + 1))) then (Int.tmod (wrap64 (a4)) (wrap64 ((l1.length : Int) + 1))) else (Int.tmod (wrap64 (a3)) (wrap64 ((l1.length : Int) + 1)))) = ji44 := hji44
          obtain ⟨ji45, hji45⟩ : ∃ j_ : Int, (mx (Int.tmod (wrap64 (a3)) (wrap64 ((l1.length : Int) + 1))) (Int.tmod (wrap64 (a4)) (wrap64 ((l1.length : Int) + 1)))) = j_ := ⟨_, rfl⟩
          replace H : (cottonpadlaw04_BurnFouled.l1 k2 l2 t109 x13_2 ji44 ji45 a0_0 0 (l1.length : Int) 0 a0_0 a0_1 l1 0 0) = some r := by first | (rw [hji45] at H; exact H) | (simp only [hji45] at H ⊢; exact H)
          have hji45_ : (if (Int.tmod (wrap64 (a3)) (wrap64 ((l1.length : Int) + 1))) < (Int.tmod (wrap64 (a4)) (wrap64 ((l1.length : Int) + 1))) then (Int.tmod (wrap64 (a4)) (wrap64 ((l1.length : Int) + 1))) else (Int.tmod (wrap64 (a3)) (wrap64 ((l1.length : Int) + 1)))) = ji45 := hji45
          have H' := A_ H
          clear H
          try go_wp2
          have n0_ := A_ (Kd.R_drew HO_13.out)
          have n1_ := A_ (blk_drew BK107.out)
          have n2_ := A_ (blk_drew BK108.out)
          have n3_ := A_ (below_drew1 HB.out)
          clear HO_13
          clear BK107
          clear BK108
          clear HB
          have HO_13 := n0_
          have BK107 := n1_
          have BK108 := n2_
          have HB := n3_
          clear n0_ n1_ n2_ n3_
          refine start_ (n := 12) (S := fun w' => True) (ds := []) #[false, false, false, false, false, false, false, false, false, false, false, false] (by kernel_rfl) rfl rfl trivial (fun hHeld => ?_); refine with_tabW cottonpadlaw04_BurnFouled.tab13 cottonpadlaw04_BurnFouled.bits13 (fun HT_ HW_ => ?_)
          generalize wr.drew = w46 at HO_13 BK107 BK108 HB hHeld ⊢
          refine pure_ (i := 0) (N := some 66) (v := ?_) (a' := ?_) #[true, false, false, false, false, false, false, false, false, false, false, false] rfl rfl (any_of HT_.out (by kernel_rfl)) (fun _ _ _ h => h) (Or.inl ⟨by rfl, ?_⟩) ?_ ?_
          rotate_left
          ·
           intro w'
           go_simp
           with_reducible rfl
          rotate_left
          ·
           simp only [Act.put, sT_, s0_, sS_, i64_w, i32_w]
           rfl
          refine pure_ (i := 1) (N := some 67) (v := ?_) (a' := ?_) #[true, true, false, false, false, false, false, false, false, false, false, false] rfl rfl (any_of HT_.out (by kernel_rfl)) (fun _ _ _ h => h) (Or.inl ⟨by rfl, ?_⟩) ?_ ?_
          rotate_left
          ·
           intro w'
           go_simp
           with_reducible rfl
          rotate_left
          ·
           simp only [Act.put, sT_, s0_, sS_, i64_w, i32_w]
           rfl
          refine pure_ (i := 2) (N := some 68) (v := ?_) (a' := ?_) #[true, true, true, false, false, false, false, false, false, false, false, false] rfl rfl (any_of HT_.out (by kernel_rfl)) (fun _ _ _ h => h) (Or.inl ⟨by rfl, ?_⟩) ?_ ?_
          rotate_left
          ·
           intro w'
           go_simp
           with_reducible rfl
          rotate_left
          ·
           simp only [Act.put, sT_, s0_, sS_, i64_w, i32_w]
           rfl
          refine pure_ (i := 3) (N := some 69) (v := ?_) (a' := ?_) #[true, true, true, true, false, false, false, false, false, false, false, false] rfl rfl (any_of HT_.out (by kernel_rfl)) (fun _ _ _ h => h) (Or.inl ⟨by rfl, ?_⟩) ?_ ?_
          rotate_left
          ·
           intro w'
           go_simp
           with_reducible rfl
          rotate_left
          ·
           simp only [Act.put, sT_, s0_, sS_, i64_w, i32_w]
           rfl
          refine pure_ (i := 4) (N := some 70) (v := ?_) (a' := ?_) #[true, true, true, true, true, false, false, false, false, false, false, false] rfl rfl (any_of HT_.out (by kernel_rfl)) (fun _ _ _ h => h) (Or.inl ⟨by rfl, ?_⟩) ?_ ?_
          rotate_left
          ·
           intro w'
           go_simp
           with_reducible rfl
          rotate_left
          ·
           simp only [Act.put, sT_, s0_, sS_, i64_w, i32_w]
           rfl
          refine pure_ (i := 5) (N := some 71) (v := ?_) (a' := ?_) #[true, true, true, true, true, true, false, false, false, false, false, false] rfl rfl (any_of HT_.out (by kernel_rfl)) (fun _ _ _ h => h) (Or.inl ⟨by rfl, ?_⟩) ?_ ?_
          rotate_left
          ·
           intro w'
           go_simp
           with_reducible rfl
          rotate_left
          ·
           simp only [Act.put, sT_, s0_, sS_, i64_w, i32_w]
           rfl
          refine pure_ (i := 6) (N := some 72) (v := ?_) (a' := ?_) #[true, true, true, true, true, true, true, false, false, false, false, false] rfl rfl (any_of HT_.out (by kernel_rfl)) (fun _ _ _ h => h) (Or.inl ⟨by rfl, ?_⟩) ?_ ?_
          rotate_left
          ·
           intro w'
           go_simp
           with_reducible rfl
          rotate_left
          ·
           simp only [Act.put, sT_, s0_, sS_, i64_w, i32_w]
           rfl
          refine pure_ (i := 7) (N := some 73) (v := ?_) (a' := ?_) #[true, true, true, true, true, true, true, true, false, false, false, false] rfl rfl (any_of HT_.out (by kernel_rfl)) (fun _ _ _ h => h) (Or.inl ⟨by rfl, ?_⟩) ?_ ?_
          rotate_left
          ·
           intro w'
           go_simp
           with_reducible rfl
          rotate_left
          ·
           simp only [Act.put, sT_, s0_, sS_, i64_w, i32_w]
           rfl
          refine pure_ (i := 8) (N := some 74) (v := ?_) (a' := ?_) #[true, true, true, true, true, true, true, true, true, false, false, false] rfl rfl (any_of HT_.out (by kernel_rfl)) (fun _ _ _ h => h) (Or.inl ⟨by rfl, ?_⟩) ?_ ?_
          rotate_left
          ·
           intro w'
           go_simp
           with_reducible rfl
          rotate_left
          ·
           simp only [Act.put, sT_, s0_, sS_, i64_w, i32_w]
           rfl
          refine pure_ (i := 9) (N := some 75) (v := ?_) (a' := ?_) #[true, true, true, true, true, true, true, true, true, true, false, false] rfl rfl (any_of HT_.out (by kernel_rfl)) (fun _ _ _ h => h) (Or.inl ⟨by rfl, ?_⟩) ?_ ?_
          rotate_left
          ·
           intro w'
           go_simp
           with_reducible rfl
          rotate_left
          ·
           simp only [Act.put, sT_, s0_, sS_, i64_w, i32_w]
           rfl
          refine pure_ (i := 10) (N := some 17) (v := ?_) (a' := ?_) #[true, true, true, true, true, true, true, true, true, true, true, false] rfl rfl (any_of HT_.out (by kernel_rfl)) (fun _ _ _ h => h) (Or.inl ⟨by rfl, ?_⟩) ?_ ?_
          rotate_left
          ·
           intro w'
           go_simp
           with_reducible rfl
          rotate_left
          ·
           simp only [Act.put, sT_, s0_, sS_, i64_w, i32_w]
           rfl
          refine pure_ (i := 11) (N := some 18) (v := ?_) (a' := ?_) #[true, true, true, true, true, true, true, true, true, true, true, true] rfl rfl (any_of HT_.out (by kernel_rfl)) (fun _ _ _ h => h) (Or.inl ⟨by rfl, ?_⟩) ?_ ?_
          rotate_left
          ·
           intro w'
           go_simp
           with_reducible rfl
          rotate_left
          ·
           simp only [Act.put, sT_, s0_, sS_, i64_w, i32_w]
           rfl
          refine done_ (done_of HT_.out (by kernel_rfl)) ?_
          have hnb47 := NB107_108.out
          have hnc47 := NB108_107.out
          have hcz48_0 : w46.cell? ⟨gb107, 0, none⟩ = some (.int .i64 a0_0) := (blk_cell BK107.out 0).trans rfl
          have hcz48_1 : w46.cell? ⟨gb107, 1, none⟩ = some (.int .i64 a0_1) := (blk_cell BK107.out 1).trans rfl
          have hfz48_0 := blk_frozen BK107.out 0
          have hfz48_1 := blk_frozen BK107.out 1
          try go_wp2_with (first | ((with_reducible refine gate_dst (N := 20) rfl ?_); refine box_event ?hg (N := 20) ?hd (cs := #[.int .i64 0, .int .i64 0]) (t := 23) ?hr ?_; (case hd => rfl); (case hg => rfl); (case hr => first | (go_simp; done) | (go_simp; rfl)); intro gb117 hg w49 hbox hb; have n0_ := A_ (Kd.R_below (kr_ HO_13.out) hb); have n1_ := bb_ BK107.out hb; have n2_ := bb_ BK108.out hb; have n3_ := A_ (below_step (by repeat (first | (with_reducible first | exact HB.out | apply below_alloc | apply pw_below_drewN | apply below_drew1 | refine below_set ?_ GE107.out | refine below_set ?_ GE108.out) | exact HB.out)) hb); have n4_ := A_ (hbox); have n5_ := A_ ((by rw [hg]; exact (below_size (by repeat (first | (with_reducible first | exact HB.out | apply below_alloc | apply pw_below_drewN | apply below_drew1 | refine below_set ?_ GE107.out | refine below_set ?_ GE108.out) | exact HB.out))) : w.heap.size ≤ gb117)); have n6_ := A_ ((by rw [hg]; exact (below_size (by repeat (first | (with_reducible first | exact HB.out | apply below_alloc | apply pw_below_drewN | apply below_drew1 | refine below_set ?_ GE107.out | refine below_set ?_ GE108.out) | exact HB.out))) : w.heap.size ≤ gb117)); have n7_ := A_ ((by rw [hg]; exact Nat.ne_of_lt (blk_lt (g := gb107) (o := .cells #[.int .i64 a0_0, .int .i64 a0_1] 48 (0, 0)) (bk_ BK107.out)) : gb107 ≠ gb117)); have n8_ := A_ ((by rw [hg]; exact Nat.ne_of_gt (blk_lt (g := gb107) (o := .cells #[.int .i64 a0_0, .int .i64 a0_1] 48 (0, 0)) (bk_ BK107.out)) : gb117 ≠ gb107)); have n9_ := A_ ((by rw [hg]; exact Nat.ne_of_lt (blk_lt (g := gb108) (o := .cells #[.slice A1 l1.length c1] 26 (0, 0)) (bk_ BK108.out)) : gb108 ≠ gb117)); have n10_ := A_ ((by rw [hg]; exact Nat.ne_of_gt (blk_lt (g := gb108) (o := .cells #[.slice A1 l1.length c1] 26 (0, 0)) (bk_ BK108.out)) : gb117 ≠ gb108)); clear HO_13; clear BK107; clear BK108; clear HB; have HO_13 := n0_; have BK107 := n1_; have BK108 := n2_; have HB := n3_; have BK117 := n4_; have GW117 := n5_; have GE117 := n6_; have NB107_117 := n7_; have NB117_107 := n8_; have NB108_117 := n9_; have NB117_108 := n10_; clear n0_ n1_ n2_ n3_ n4_ n5_ n6_ n7_ n8_ n9_ n10_; clear hb hbox hg; have hnb50 := NB117_107.out; have hnc50 := NB107_117.out; have hnb51 := NB117_108.out; have hnc51 := NB108_117.out; have hcz52_0 : w49.cell? ⟨gb117, 0, none⟩ = some (.int .i64 0) := (blk_cell BK117.out 0).trans rfl; have hcz52_1 : w49.cell? ⟨gb117, 1, none⟩ = some (.int .i64 0) := (blk_cell BK117.out 1).trans rfl; have hfz52_0 := blk_frozen BK117.out 0; have hfz52_1 := blk_frozen BK117.out 1))
          go_loopg [19, 21, 86] k2 (fun kq v19 v21 v86 w' => ∃ (x19_3 : Int) (x21_3 : Int) (x86_3 : Int) (x118000_3 : Int) (x118001_3 : Int), v19 = .int .i64 x19_3 ∧ v21 = .int .i64 x21_3 ∧ v86 = .int .i64 x86_3 ∧ Aside0 (cottonpadlaw04_BurnFouled.l1 kq l2 t109 x13_2 ji44 ji45 x19_3 x21_3 (l1.length : Int) x86_3 a0_0 a0_1 l1 x118000_3 x118001_3 = some r) ∧ Aside0 (kq ≤ k2) ∧ Aside0 (Kd.R (Kd.int .i64) 3 w' w.heap.size (fun _ => True) v113 x13_2) ∧ Aside0 (w'.heap[gb107]? = some (.cells #[.int .i64 a0_0, .int .i64 a0_1] 48 (0, 0))) ∧ Aside0 (w'.heap[gb108]? = some (.cells #[(.slice A1 l1.length c1)] 26 (0, 0))) ∧ Aside0 (w'.heap[gb117]? = some (.cells #[.int .i64 x118000_3, .int .i64 x118001_3] 23 (0, 0))) ∧ Aside0 (Below w.heap.size w w'))
          case atStart => exact ⟨(a0_0), (0), (0), (0), (0), (by first | rfl | (simp; done) | (simp [*]; done)), (by first | rfl | (simp; done) | (simp [*]; done)), (by first | rfl | (simp; done) | (simp [*]; done)), H', ⟨Nat.le_refl _⟩, ⟨by (with_reducible repeat (first | apply Kd.R_alloc | apply Kd.R_drewN | apply Kd.R_drew)); exact Kd.R_mono (Kd.R_far (p := ⟨gb117, 1, none⟩) (Kd.R_far (p := ⟨gb117, 0, none⟩) (Kd.R_types HO_13.out BK117.out (by decide)) (fun _ hk => hk.2) (.int .i64 0)) (fun _ hk => hk.2) (.int .i64 0)) (fun _ hk => trivial)⟩, ⟨by (with_reducible repeat (first | refine blk_drewN ?_ _ | refine blk_drew ?_ | refine blk_alloc ?_ _)); refine blk_far ?_ NB107_117.out _; (with_reducible repeat (first | refine blk_drewN ?_ _ | refine blk_drew ?_ | refine blk_alloc ?_ _)); refine blk_far ?_ NB107_117.out _; (with_reducible repeat (first | refine blk_drewN ?_ _ | refine blk_drew ?_ | refine blk_alloc ?_ _)); exact BK107.out⟩, ⟨by (with_reducible repeat (first | refine blk_drewN ?_ _ | refine blk_drew ?_ | refine blk_alloc ?_ _)); refine blk_far ?_ NB108_117.out _; (with_reducible repeat (first | refine blk_drewN ?_ _ | refine blk_drew ?_ | refine blk_alloc ?_ _)); refine blk_far ?_ NB108_117.out _; (with_reducible repeat (first | refine blk_drewN ?_ _ | refine blk_drew ?_ | refine blk_alloc ?_ _)); exact BK108.out⟩, ⟨by (with_reducible repeat (first | refine blk_drewN ?_ _ | refine blk_drew ?_ | refine blk_alloc ?_ _)); refine blk_put (cs := #[.int .i64 0, .int .i64 0]) ?_ 1 _ rfl; (with_reducible repeat (first | refine blk_drewN ?_ _ | refine blk_drew ?_ | refine blk_alloc ?_ _)); refine blk_put (cs := #[.int .i64 0, .int .i64 0]) ?_ 0 _ rfl; (with_reducible repeat (first | refine blk_drewN ?_ _ | refine blk_drew ?_ | refine blk_alloc ?_ _)); exact BK117.out⟩, ⟨by repeat (first | (with_reducible first | exact HB.out | apply below_alloc | apply pw_below_drewN | apply below_drew1 | refine below_set ?_ GE107.out | refine below_set ?_ GE108.out | refine below_set ?_ GE117.out) | exact HB.out)⟩⟩
          case round =>
           clear H'
           try clear c1
           try clear p1
           try clear q1
           try clear hx1
           try clear c2
           try clear p2
           try clear c3
           try clear p3
           try clear q3
           try clear hx3
           try clear c4
           try clear c5
           try clear p6
           try clear c10
           try clear c11
           try clear p11
           try clear q11
           try clear hx11
           try clear c12
           try clear c13
           try clear c16
           try clear c16b0
           try clear c16b1
           try clear c17
           try clear c21
           try clear c25
           try clear c26
           try clear c26b0
           try clear c26b1
           try clear c27
           try clear c27b0
           try clear c27b1
           try clear c28
           try clear c33
           try clear c33b0
           try clear c34
           try clear c34b0
           try clear c35
           try clear c35b0
           try clear c37
           try clear c37b0
           try clear p38
           try clear q38
           try clear hx38
           try clear hf38
           try clear c39
           try clear c43
           try clear c43b0
           try clear c43b1
           try clear c47
           try clear c50
           try clear c51
           try clear hcz14_0
           try clear hcz18_0
           try clear hcz19_0
           try clear hcz19_1
           try clear hcz22_0
           try clear hcz23_0
           try clear hcz23_1
           try clear hcz29_0
           try clear hcz32_0
           try clear hcz32_1
           try clear hcz40_0
           try clear hcz48_0
           try clear hcz48_1
           try clear hcz52_0
           try clear hcz52_1
           try clear hfz14_0
           try clear hfz18_0
           try clear hfz19_0
           try clear hfz19_1
           try clear hfz22_0
           try clear hfz23_0
           try clear hfz23_1
           try clear hfz29_0
           try clear hfz32_0
           try clear hfz32_1
           try clear hfz40_0
           try clear hfz48_0
           try clear hfz48_1
           try clear hfz52_0
           try clear hfz52_1
           try clear hx115_0
           try clear hx38_0
           try clear p115
           try clear p2
           try clear p38
           try clear p6
           try clear q115
           try clear q38
           obtain ⟨x19_3, x21_3, x86_3, x118000_3, x118001_3, rfl, rfl, rfl, HA, HK3, HO_13, BK107, BK108, BK117, HB⟩ := hrel
           cases gk with
           | zero => exact absurd HA.out (by simp [cottonpadlaw04_BurnFouled.l1])
           | succ k3 =>
            have H := HA.out
            clear HA
            simp only [cottonpadlaw04_BurnFouled.l1] at H
            by_cases c53 : x86_3 < (l1.length : Int)
            ·
             rw [if_pos c53] at H
             have c53b0 : decide (x86_3 < (l1.length : Int)) = true := decide_eq_true c53
             clear c53
             by_cases c54 : 0 ≤ x86_3
             ·
              rw [if_pos c54] at H
              have c54b0 : decide (0 ≤ x86_3) = true := decide_eq_true c54
              clear c54
              by_cases c55 : x86_3 < (x13_2.length : Int)
              ·
               rw [if_pos c55] at H
               have c55b0 : decide (x86_3 < (x13_2.length : Int)) = true := decide_eq_true c55
               clear c55
               replace H := Option.bind_eq_some_iff.mp H
               obtain ⟨⟨t123, t124⟩, A560, H⟩ := H
               try dsimp only at H
               have A56 := A_ A560
               clear A560
               replace H := Option.bind_eq_some_iff.mp H
               obtain ⟨t125, A570, H⟩ := H
               try dsimp only at H
               have A57 := A_ A570
               clear A570
               replace H := Option.bind_eq_some_iff.mp H
               obtain ⟨t126, A580, H⟩ := H
               try dsimp only at H
               have A58 := A_ A580
               clear A580
               replace H := Option.bind_eq_some_iff.mp H
               obtain ⟨⟨t127, t128, t129⟩, A590, H⟩ := H
               try dsimp only at H
               have A59 := A_ A590
               clear A590
               replace H := Option.bind_eq_some_iff.mp H
               obtain ⟨⟨t131, t132, t133⟩, A600, H⟩ := H
               try dsimp only at H
               have A60 := A_ A600
               clear A600
               have HC61 := A_ H
               clear H
               obtain ⟨Ao62, co62, eo62⟩ := Kd.R_slice HO_13.out
               subst eo62
               have p122 : 0 ≤ (x86_3 : Int) := of_decide_eq_true (by first | (with_reducible assumption) | assumption)
               have q122 : x86_3 < (x13_2.length : Int) := of_decide_eq_true (by first | (with_reducible assumption) | assumption)
               obtain ⟨ad122, e122, hx122_0⟩ := Kd.at_int (Kd.R_reads' HO_13.out).2.2 x86_3 p122 q122
               cases e122
               replace p122 := eq_true p122
               replace q122 := eq_true q122
               go_upto_region 23 with (first | ((with_reducible refine gate_callee (f := 35) rfl ?_); refine goesL_ (some 94) rfl rfl Tryd.func35 (by kernel_rfl) rfl #[.int .i64 (rd x13_2 x86_3), .int .i64 x19_3] rfl (by (try simp only [List.map_toArray, List.map_cons, List.map_nil]); first | done | rfl | (simp only [List.length_drop, List.length_take]; rfl)) ?_; (with_reducible refine (cottonpadlaw04_span.calls (rd x13_2 x86_3) x19_3 t123 t124 _ A56.out).mono ?_); rintro e w63 ⟨rfl, hb⟩; refine ⟨_, rfl, ?_⟩; have n0_ := A_ (Kd.R_below (kr_ HO_13.out) hb); have n1_ := bb_ BK107.out hb; have n2_ := bb_ BK108.out hb; have n3_ := bb_ BK117.out hb; have n4_ := A_ (below_step (by repeat (first | (with_reducible first | exact HB.out | apply below_alloc | apply pw_below_drewN | apply below_drew1 | refine below_set ?_ GE107.out | refine below_set ?_ GE108.out | refine below_set ?_ GE117.out) | exact HB.out)) hb); clear HO_13; clear BK107; clear BK108; clear BK117; clear HB; have HO_13 := n0_; have BK107 := n1_; have BK108 := n2_; have BK117 := n3_; have HB := n4_; clear n0_ n1_ n2_ n3_ n4_; (try clear hb); (try clear hb2); (try clear hk); (try clear hi)) | ((with_reducible refine gate_callee (f := 36) rfl ?_); refine goesL_ (some 97) rfl rfl Tryd.func36 (by kernel_rfl) rfl #[.slice A2 l2.length c2, .int .i64 x86_3] rfl (by (try simp only [List.map_toArray, List.map_cons, List.map_nil]); first | done | rfl | (simp only [List.length_drop, List.length_take]; rfl)) ?_; (with_reducible refine (cottonpadlaw04_choose.calls _ _ l2 x86_3 t125 _ ?side1 ?side2 A57.out).mono ?_); (case side1 => repeat (first | exact (Kd.C_below HR2.out HB.out) | (with_reducible refine Kd.C_alloc ?_ _) | (with_reducible refine Kd.C_drewN ?_ _) | (with_reducible refine Kd.C_drew ?_))); (case side2 => exact HC2.out); rintro e w' ⟨rfl, ⟨nd, rfl⟩⟩; refine ⟨_, rfl, ?_⟩; (try (rw [drewN_self w63]; generalize hq_ : World.drewN w63 _ = w63; have n0_ : Aside0 (Kd.R (Kd.int .i64) 3 w63 w.heap.size (fun _ => True) (.slice (some ad122) x13_2.length co62) x13_2) := ⟨by rw [← hq_]; exact (kr_ HO_13.out)⟩; have n1_ : Aside0 (w63.heap[gb107]? = some (.cells #[.int .i64 a0_0, .int .i64 a0_1] 48 (0, 0))) := ⟨by rw [← hq_]; exact (bk_ BK107.out)⟩; have n2_ : Aside0 (w63.heap[gb108]? = some (.cells #[.slice A1 l1.length c1] 26 (0, 0))) := ⟨by rw [← hq_]; exact (bk_ BK108.out)⟩; have n3_ : Aside0 (w63.heap[gb117]? = some (.cells #[.int .i64 x118000_3, .int .i64 x118001_3] 23 (0, 0))) := ⟨by rw [← hq_]; exact (bk_ BK117.out)⟩; have n4_ : Aside0 (Below w.heap.size w w63) := ⟨by rw [← hq_]; exact (by repeat (first | (with_reducible first | exact HB.out | apply below_alloc | apply pw_below_drewN | apply below_drew1 | refine below_set ?_ GE107.out | refine below_set ?_ GE108.out | refine below_set ?_ GE117.out) | exact HB.out))⟩; clear HO_13 BK107 BK108 BK117 HB hq_; have HO_13 := n0_; have BK107 := n1_; have BK108 := n2_; have BK117 := n3_; have HB := n4_; clear n0_ n1_ n2_ n3_ n4_))) | ((with_reducible refine gate_callee (f := 39) rfl ?_); refine goesL_ (some 98) rfl rfl Tryd.func39 (by kernel_rfl) rfl #[.agg #[.int .i64 t123, .int .i64 t124], .int .i64 t125] rfl (by (try simp only [List.map_toArray, List.map_cons, List.map_nil]); first | done | rfl | (simp only [List.length_drop, List.length_take]; rfl)) ?_; (with_reducible refine (cottonpadlaw04_pick.calls t123 t124 t125 t126 _ A58.out).mono ?_); rintro e w64 ⟨rfl, hb⟩; refine ⟨_, rfl, ?_⟩; have n0_ := A_ (Kd.R_below (kr_ HO_13.out) hb); have n1_ := bb_ BK107.out hb; have n2_ := bb_ BK108.out hb; have n3_ := bb_ BK117.out hb; have n4_ := A_ (below_step (by repeat (first | (with_reducible first | exact HB.out | apply below_alloc | apply pw_below_drewN | apply below_drew1 | refine below_set ?_ GE107.out | refine below_set ?_ GE108.out | refine below_set ?_ GE117.out) | exact HB.out)) hb); clear HO_13; clear BK107; clear BK108; clear BK117; clear HB; have HO_13 := n0_; have BK107 := n1_; have BK108 := n2_; have BK117 := n3_; have HB := n4_; clear n0_ n1_ n2_ n3_ n4_; (try clear hb); (try clear hb2); (try clear hk); (try clear hi); have hnb65 := NB107_108.out; have hnc65 := NB108_107.out; have hnb66 := NB107_117.out; have hnc66 := NB117_107.out; have hcz67_0 : w64.cell? ⟨gb107, 0, none⟩ = some (.int .i64 a0_0) := (blk_cell BK107.out 0).trans rfl; have hcz67_1 : w64.cell? ⟨gb107, 1, none⟩ = some (.int .i64 a0_1) := (blk_cell BK107.out 1).trans rfl; have hfz67_0 := blk_frozen BK107.out 0; have hfz67_1 := blk_frozen BK107.out 1; have hnb68 := NB108_117.out; have hnc68 := NB117_108.out; have hcz69_0 : w64.cell? ⟨gb108, 0, none⟩ = some (.slice A1 l1.length c1) := (blk_cell BK108.out 0).trans rfl; have hfz69_0 := blk_frozen BK108.out 0) | ((with_reducible refine gate_callee (f := 30) rfl ?_); refine goesL_ (some 103) rfl rfl Tryd.func30 (by kernel_rfl) rfl #[.agg #[.int .i64 a0_0, .int .i64 a0_1], .slice A1 l1.length c1, .int .i64 x86_3] rfl (by (try simp only [List.map_toArray, List.map_cons, List.map_nil]); first | done | rfl | (simp only [List.length_drop, List.length_take]; rfl)) ?_; (with_reducible refine (burn_Clean.calls k3 a0_0 a0_1 _ _ l1 x86_3 t127 t128 t129 _ ?side1 ?side2 A59.out).mono ?_); (case side1 => repeat (first | exact (Kd.C_below HR1.out HB.out) | (with_reducible refine Kd.C_alloc ?_ _) | (with_reducible refine Kd.C_drewN ?_ _) | (with_reducible refine Kd.C_drew ?_))); (case side2 => exact HC1.out); rintro e w70 ⟨rfl, hb⟩; refine ⟨_, rfl, ?_⟩; have n0_ := A_ (Kd.R_below (kr_ HO_13.out) hb); have n1_ := bb_ BK107.out hb; have n2_ := bb_ BK108.out hb; have n3_ := bb_ BK117.out hb; have n4_ := A_ (below_step (by repeat (first | (with_reducible first | exact HB.out | apply below_alloc | apply pw_below_drewN | apply below_drew1 | refine below_set ?_ GE107.out | refine below_set ?_ GE108.out | refine below_set ?_ GE117.out) | exact HB.out)) hb); clear HO_13; clear BK107; clear BK108; clear BK117; clear HB; have HO_13 := n0_; have BK107 := n1_; have BK108 := n2_; have BK117 := n3_; have HB := n4_; clear n0_ n1_ n2_ n3_ n4_; (try clear hb); (try clear hb2); (try clear hk); (try clear hi)) | ((with_reducible refine gate_dst (N := 23) rfl ?_); refine box_event ?hg (N := 23) ?hd (cs := #[.int .i64 0, .int .i64 0]) (t := 23) ?hr ?_; (case hd => rfl); (case hg => rfl); (case hr => first | (go_simp; done) | (go_simp; rfl)); intro gb130 hg w71 hbox hb; have n0_ := A_ (Kd.R_below (kr_ HO_13.out) hb); have n1_ := bb_ BK107.out hb; have n2_ := bb_ BK108.out hb; have n3_ := bb_ BK117.out hb; have n4_ := A_ (below_step (by repeat (first | (with_reducible first | exact HB.out | apply below_alloc | apply pw_below_drewN | apply below_drew1 | refine below_set ?_ GE107.out | refine below_set ?_ GE108.out | refine below_set ?_ GE117.out) | exact HB.out)) hb); have n5_ := A_ (hbox); have n6_ := A_ ((by rw [hg]; exact (below_size (by repeat (first | (with_reducible first | exact HB.out | apply below_alloc | apply pw_below_drewN | apply below_drew1 | refine below_set ?_ GE107.out | refine below_set ?_ GE108.out | refine below_set ?_ GE117.out) | exact HB.out))) : w.heap.size ≤ gb130)); have n7_ := A_ ((by rw [hg]; exact (below_size (by repeat (first | (with_reducible first | exact HB.out | apply below_alloc | apply pw_below_drewN | apply below_drew1 | refine below_set ?_ GE107.out | refine below_set ?_ GE108.out | refine below_set ?_ GE117.out) | exact HB.out))) : w.heap.size ≤ gb130)); have n8_ := A_ ((by rw [hg]; exact Nat.ne_of_lt (blk_lt (g := gb107) (o := .cells #[.int .i64 a0_0, .int .i64 a0_1] 48 (0, 0)) (bk_ BK107.out)) : gb107 ≠ gb130)); have n9_ := A_ ((by rw [hg]; exact Nat.ne_of_gt (blk_lt (g := gb107) (o := .cells #[.int .i64 a0_0, .int .i64 a0_1] 48 (0, 0)) (bk_ BK107.out)) : gb130 ≠ gb107)); have n10_ := A_ ((by rw [hg]; exact Nat.ne_of_lt (blk_lt (g := gb108) (o := .cells #[.slice A1 l1.length c1] 26 (0, 0)) (bk_ BK108.out)) : gb108 ≠ gb130)); have n11_ := A_ ((by rw [hg]; exact Nat.ne_of_gt (blk_lt (g := gb108) (o := .cells #[.slice A1 l1.length c1] 26 (0, 0)) (bk_ BK108.out)) : gb130 ≠ gb108)); have n12_ := A_ ((by rw [hg]; exact Nat.ne_of_lt (blk_lt (g := gb117) (o := .cells #[.int .i64 x118000_3, .int .i64 x118001_3] 23 (0, 0)) (bk_ BK117.out)) : gb117 ≠ gb130)); have n13_ := A_ ((by rw [hg]; exact Nat.ne_of_gt (blk_lt (g := gb117) (o := .cells #[.int .i64 x118000_3, .int .i64 x118001_3] 23 (0, 0)) (bk_ BK117.out)) : gb130 ≠ gb117)); clear HO_13; clear BK107; clear BK108; clear BK117; clear HB; have HO_13 := n0_; have BK107 := n1_; have BK108 := n2_; have BK117 := n3_; have HB := n4_; have BK130 := n5_; have GW130 := n6_; have GE130 := n7_; have NB107_130 := n8_; have NB130_107 := n9_; have NB108_130 := n10_; have NB130_108 := n11_; have NB117_130 := n12_; have NB130_117 := n13_; clear n0_ n1_ n2_ n3_ n4_ n5_ n6_ n7_ n8_ n9_ n10_ n11_ n12_ n13_; clear hb hbox hg; have hnb72 := NB130_107.out; have hnc72 := NB107_130.out; have hnb73 := NB130_108.out; have hnc73 := NB108_130.out; have hnb74 := NB130_117.out; have hnc74 := NB117_130.out; have hcz75_0 : w71.cell? ⟨gb130, 0, none⟩ = some (.int .i64 0) := (blk_cell BK130.out 0).trans rfl; have hcz75_1 : w71.cell? ⟨gb130, 1, none⟩ = some (.int .i64 0) := (blk_cell BK130.out 1).trans rfl; have hfz75_0 := blk_frozen BK130.out 0; have hfz75_1 := blk_frozen BK130.out 1; have hcz76_0 : w71.cell? ⟨gb107, 0, none⟩ = some (.int .i64 a0_0) := (blk_cell BK107.out 0).trans rfl; have hcz76_1 : w71.cell? ⟨gb107, 1, none⟩ = some (.int .i64 a0_1) := (blk_cell BK107.out 1).trans rfl; have hfz76_0 := blk_frozen BK107.out 0; have hfz76_1 := blk_frozen BK107.out 1; have hcz77_0 : w71.cell? ⟨gb108, 0, none⟩ = some (.slice A1 l1.length c1) := (blk_cell BK108.out 0).trans rfl; have hfz77_0 := blk_frozen BK108.out 0) | ((with_reducible refine gate_callee (f := 27) rfl ?_); refine goesL_ (some 110) rfl rfl Tryd.func27 (by kernel_rfl) rfl #[.agg #[.int .i64 a0_0, .int .i64 a0_1], .slice A1 l1.length c1, .int .i64 x86_3] rfl (by (try simp only [List.map_toArray, List.map_cons, List.map_nil]); first | done | rfl | (simp only [List.length_drop, List.length_take]; rfl)) ?_; (with_reducible refine (burn_Dark.calls k3 a0_0 a0_1 _ _ l1 x86_3 t131 t132 t133 _ ?side1 ?side2 A60.out).mono ?_); (case side1 => exact Kd.C_below HR1.out (by repeat (first | (with_reducible first | exact HB.out | apply below_alloc | apply pw_below_drewN | apply below_drew1 | refine below_set ?_ GE107.out | refine below_set ?_ GE108.out | refine below_set ?_ GE117.out | refine below_set ?_ GE130.out) | exact HB.out))); (case side2 => exact HC1.out); rintro e w78 ⟨rfl, hb⟩; refine ⟨_, rfl, ?_⟩; have n0_ := A_ (Kd.R_below (by (with_reducible repeat (first | apply Kd.R_alloc | apply Kd.R_drewN | apply Kd.R_drew)); exact (Kd.R_mono (Kd.R_far (p := ⟨gb130, 1, none⟩) (Kd.R_far (p := ⟨gb130, 0, none⟩) (Kd.R_types HO_13.out BK130.out (by decide)) (fun _ hk => hk.2) (.int .i64 t127)) (fun _ hk => hk.2) (.int .i64 t128)) (fun _ h_ => h_.1))) hb); have n1_ := A_ (blk_below (g := gb107) (o := .cells #[.int .i64 a0_0, .int .i64 a0_1] 48 (0, 0)) (by (with_reducible repeat (first | refine blk_drewN ?_ _ | refine blk_drew ?_ | refine blk_alloc ?_ _)); refine blk_far ?_ NB107_130.out _; (with_reducible repeat (first | refine blk_drewN ?_ _ | refine blk_drew ?_ | refine blk_alloc ?_ _)); refine blk_far ?_ NB107_130.out _; (with_reducible repeat (first | refine blk_drewN ?_ _ | refine blk_drew ?_ | refine blk_alloc ?_ _)); exact BK107.out) hb); have n2_ := A_ (blk_below (g := gb108) (o := .cells #[.slice A1 l1.length c1] 26 (0, 0)) (by (with_reducible repeat (first | refine blk_drewN ?_ _ | refine blk_drew ?_ | refine blk_alloc ?_ _)); refine blk_far ?_ NB108_130.out _; (with_reducible repeat (first | refine blk_drewN ?_ _ | refine blk_drew ?_ | refine blk_alloc ?_ _)); refine blk_far ?_ NB108_130.out _; (with_reducible repeat (first | refine blk_drewN ?_ _ | refine blk_drew ?_ | refine blk_alloc ?_ _)); exact BK108.out) hb); have n3_ := A_ (blk_below (g := gb117) (o := .cells #[.int .i64 x118000_3, .int .i64 x118001_3] 23 (0, 0)) (by (with_reducible repeat (first | refine blk_drewN ?_ _ | refine blk_drew ?_ | refine blk_alloc ?_ _)); refine blk_far ?_ NB117_130.out _; (with_reducible repeat (first | refine blk_drewN ?_ _ | refine blk_drew ?_ | refine blk_alloc ?_ _)); refine blk_far ?_ NB117_130.out _; (with_reducible repeat (first | refine blk_drewN ?_ _ | refine blk_drew ?_ | refine blk_alloc ?_ _)); exact BK117.out) hb); have n4_ := A_ (blk_below (g := gb130) (o := .cells #[.int .i64 t127, .int .i64 t128] 23 (0, 0)) (by (with_reducible repeat (first | refine blk_drewN ?_ _ | refine blk_drew ?_ | refine blk_alloc ?_ _)); refine blk_put (cs := #[.int .i64 t127, .int .i64 0]) ?_ 1 _ rfl; (with_reducible repeat (first | refine blk_drewN ?_ _ | refine blk_drew ?_ | refine blk_alloc ?_ _)); refine blk_put (cs := #[.int .i64 0, .int .i64 0]) ?_ 0 _ rfl; (with_reducible repeat (first | refine blk_drewN ?_ _ | refine blk_drew ?_ | refine blk_alloc ?_ _)); exact BK130.out) hb); have n5_ := A_ (below_step (by repeat (first | (with_reducible first | exact HB.out | apply below_alloc | apply pw_below_drewN | apply below_drew1 | refine below_set ?_ GE107.out | refine below_set ?_ GE108.out | refine below_set ?_ GE117.out | refine below_set ?_ GE130.out) | exact HB.out)) hb); clear HO_13; clear BK107; clear BK108; clear BK117; clear BK130; clear HB; have HO_13 := n0_; have BK107 := n1_; have BK108 := n2_; have BK117 := n3_; have BK130 := n4_; have HB := n5_; clear n0_ n1_ n2_ n3_ n4_ n5_; (try clear hb); (try clear hb2); (try clear hk); (try clear hi)) | ((with_reducible refine gate_dst (N := 25) rfl ?_); refine box_event ?hg (N := 25) ?hd (cs := #[.int .i64 0, .int .i64 0]) (t := 23) ?hr ?_; (case hd => rfl); (case hg => rfl); (case hr => first | (go_simp; done) | (go_simp; rfl)); intro gb134 hg w79 hbox hb; have n0_ := A_ (Kd.R_below (kr_ HO_13.out) hb); have n1_ := bb_ BK107.out hb; have n2_ := bb_ BK108.out hb; have n3_ := bb_ BK117.out hb; have n4_ := bb_ BK130.out hb; have n5_ := A_ (below_step (by repeat (first | (with_reducible first | exact HB.out | apply below_alloc | apply pw_below_drewN | apply below_drew1 | refine below_set ?_ GE107.out | refine below_set ?_ GE108.out | refine below_set ?_ GE117.out | refine below_set ?_ GE130.out) | exact HB.out)) hb); have n6_ := A_ (hbox); have n7_ := A_ ((by rw [hg]; exact (below_size (by repeat (first | (with_reducible first | exact HB.out | apply below_alloc | apply pw_below_drewN | apply below_drew1 | refine below_set ?_ GE107.out | refine below_set ?_ GE108.out | refine below_set ?_ GE117.out | refine below_set ?_ GE130.out) | exact HB.out))) : w.heap.size ≤ gb134)); have n8_ := A_ ((by rw [hg]; exact (below_size (by repeat (first | (with_reducible first | exact HB.out | apply below_alloc | apply pw_below_drewN | apply below_drew1 | refine below_set ?_ GE107.out | refine below_set ?_ GE108.out | refine below_set ?_ GE117.out | refine below_set ?_ GE130.out) | exact HB.out))) : w.heap.size ≤ gb134)); have n9_ := A_ ((by rw [hg]; exact Nat.ne_of_lt (blk_lt (g := gb107) (o := .cells #[.int .i64 a0_0, .int .i64 a0_1] 48 (0, 0)) (bk_ BK107.out)) : gb107 ≠ gb134)); have n10_ := A_ ((by rw [hg]; exact Nat.ne_of_gt (blk_lt (g := gb107) (o := .cells #[.int .i64 a0_0, .int .i64 a0_1] 48 (0, 0)) (bk_ BK107.out)) : gb134 ≠ gb107)); have n11_ := A_ ((by rw [hg]; exact Nat.ne_of_lt (blk_lt (g := gb108) (o := .cells #[.slice A1 l1.length c1] 26 (0, 0)) (bk_ BK108.out)) : gb108 ≠ gb134)); have n12_ := A_ ((by rw [hg]; exact Nat.ne_of_gt (blk_lt (g := gb108) (o := .cells #[.slice A1 l1.length c1] 26 (0, 0)) (bk_ BK108.out)) : gb134 ≠ gb108)); have n13_ := A_ ((by rw [hg]; exact Nat.ne_of_lt (blk_lt (g := gb117) (o := .cells #[.int .i64 x118000_3, .int .i64 x118001_3] 23 (0, 0)) (bk_ BK117.out)) : gb117 ≠ gb134)); have n14_ := A_ ((by rw [hg]; exact Nat.ne_of_gt (blk_lt (g := gb117) (o := .cells #[.int .i64 x118000_3, .int .i64 x118001_3] 23 (0, 0)) (bk_ BK117.out)) : gb134 ≠ gb117)); have n15_ := A_ ((by rw [hg]; exact Nat.ne_of_lt (blk_lt (g := gb130) (o := .cells #[.int .i64 t127, .int .i64 t128] 23 (0, 0)) (bk_ BK130.out)) : gb130 ≠ gb134)); have n16_ := A_ ((by rw [hg]; exact Nat.ne_of_gt (blk_lt (g := gb130) (o := .cells #[.int .i64 t127, .int .i64 t128] 23 (0, 0)) (bk_ BK130.out)) : gb134 ≠ gb130)); clear HO_13; clear BK107; clear BK108; clear BK117; clear BK130; clear HB; have HO_13 := n0_; have BK107 := n1_; have BK108 := n2_; have BK117 := n3_; have BK130 := n4_; have HB := n5_; have BK134 := n6_; have GW134 := n7_; have GE134 := n8_; have NB107_134 := n9_; have NB134_107 := n10_; have NB108_134 := n11_; have NB134_108 := n12_; have NB117_134 := n13_; have NB134_117 := n14_; have NB130_134 := n15_; have NB134_130 := n16_; clear n0_ n1_ n2_ n3_ n4_ n5_ n6_ n7_ n8_ n9_ n10_ n11_ n12_ n13_ n14_ n15_ n16_; clear hb hbox hg; have hnb80 := NB134_107.out; have hnc80 := NB107_134.out; have hnb81 := NB134_108.out; have hnc81 := NB108_134.out; have hnb82 := NB134_117.out; have hnc82 := NB117_134.out; have hnb83 := NB134_130.out; have hnc83 := NB130_134.out; have hcz84_0 : w79.cell? ⟨gb134, 0, none⟩ = some (.int .i64 0) := (blk_cell BK134.out 0).trans rfl; have hcz84_1 : w79.cell? ⟨gb134, 1, none⟩ = some (.int .i64 0) := (blk_cell BK134.out 1).trans rfl; have hfz84_0 := blk_frozen BK134.out 0; have hfz84_1 := blk_frozen BK134.out 1))
               (try simp only [Act.put, List.setIfInBounds_toArray, List.set_cons_zero, List.set_cons_succ])
               go_cut [176] (fun v176 wc => ∃ (kq : Nat) (x176_60 : Bool), v176 = .bool x176_60 ∧ Aside0 (cottonpadlaw04_BurnFouled.j3 kq l2 t109 x13_2 ji44 ji45 t126 x21_3 x86_3 (l1.length : Int) x86_3 x176_60 a0_0 a0_1 l1 x118000_3 x118001_3 t131 t132 = some r) ∧ Aside0 (kq ≤ k3) ∧ Aside0 (Kd.R (Kd.int .i64) 3 wc w.heap.size (fun _ => True) (.slice (some ad122) x13_2.length co62) x13_2) ∧ Aside0 (wc.heap[gb107]? = some (.cells #[.int .i64 a0_0, .int .i64 a0_1] 48 (0, 0))) ∧ Aside0 (wc.heap[gb108]? = some (.cells #[(.slice A1 l1.length c1)] 26 (0, 0))) ∧ Aside0 (wc.heap[gb117]? = some (.cells #[.int .i64 x118000_3, .int .i64 x118001_3] 23 (0, 0))) ∧ Aside0 (wc.heap[gb130]? = some (.cells #[.int .i64 t127, .int .i64 t128] 23 (0, 0))) ∧ Aside0 (wc.heap[gb134]? = some (.cells #[.int .i64 t131, .int .i64 t132] 23 (0, 0))) ∧ Aside0 (Below w.heap.size w wc))
               case first =>
                have H := HC61.out
                clear HC61
                by_cases c85 : t129 = 0
                ·
                 rw [if_pos c85] at H
                 have c85b0 : (t129 == 0) = true := beq_iff_eq.mpr c85
                 have c85b1 : (t129 != 0) = false := bne_eq_false_iff_eq.mpr c85
                 clear c85
                 (first | rw [c85b0] | (simp only [i64_w, i32_w]; rw [c85b0]) | skip)
                 by_cases c86 : t133 = 0
                 ·
                  rw [if_pos c86] at H
                  have c86b0 : (t133 == 0) = true := beq_iff_eq.mpr c86
                  have c86b1 : (t133 != 0) = false := bne_eq_false_iff_eq.mpr c86
                  clear c86
                  replace H := Option.bind_eq_some_iff.mp H
                  obtain ⟨⟨t136, t137⟩, A870, H⟩ := H
                  try dsimp only at H
                  have A87 := A_ A870
                  clear A870
                  by_cases c88 : (!(t127 == t136) || (!(t128 == t137))) = true
                  ·
                   rw [if_pos c88] at H
                   have c88b0 : (!(t127 == t136) || (!(t128 == t137))) = true := c88
                   clear c88
                   exact absurd H (by simp)
                  ·
                   rw [if_neg c88] at H
                   have c88b0 : (!(t127 == t136) || (!(t128 == t137))) = false := by simpa using c88
                   clear c88
                   by_cases c89 : t126 < t127
                   ·
                    rw [if_pos c89] at H
                    have c89b0 : decide (t126 < t127) = true := decide_eq_true c89
                    clear c89
                    exact absurd H (by simp)
                   ·
                    rw [if_neg c89] at H
                    have c89b0 : decide (t126 < t127) = false := decide_eq_false c89
                    clear c89
                    by_cases c90 : t126 > t128
                    ·
                     rw [if_pos c90] at H
                     have c90b0 : decide (t128 < t126) = true := decide_eq_true c90
                     clear c90
                     exact absurd H (by simp)
                    ·
                     rw [if_neg c90] at H
                     have c90b0 : decide (t128 < t126) = false := decide_eq_false c90
                     clear c90
                     replace H := Option.bind_eq_some_iff.mp H
                     obtain ⟨t139, A910, H⟩ := H
                     try dsimp only at H
                     have A91 := A_ A910
                     clear A910
                     replace H := Option.bind_eq_some_iff.mp H
                     obtain ⟨t140, A920, H⟩ := H
                     try dsimp only at H
                     have A92 := A_ A920
                     clear A920
                     replace H := Option.bind_eq_some_iff.mp H
                     obtain ⟨⟨t141, t142⟩, A930, H⟩ := H
                     try dsimp only at H
                     have A93 := A_ A930
                     clear A930
                     by_cases c94 : (!(t131 == t141) || (!(t132 == t142))) = true
                     ·
                      rw [if_pos c94] at H
                      have c94b0 : (!(t131 == t141) || (!(t132 == t142))) = true := c94
                      clear c94
                      exact absurd H (by simp)
                     ·
                      rw [if_neg c94] at H
                      have c94b0 : (!(t131 == t141) || (!(t132 == t142))) = false := by simpa using c94
                      clear c94
                      replace H := Option.bind_eq_some_iff.mp H
                      obtain ⟨t143, A950, H⟩ := H
                      try dsimp only at H
                      have A95 := A_ A950
                      clear A950
                      by_cases c96 : t143 < t131
                      ·
                       rw [if_pos c96] at H
                       have c96b0 : decide (t143 < t131) = true := decide_eq_true c96
                       clear c96
                       exact absurd H (by simp)
                      ·
                       rw [if_neg c96] at H
                       have c96b0 : decide (t143 < t131) = false := decide_eq_false c96
                       clear c96
                       replace H := Option.bind_eq_some_iff.mp H
                       obtain ⟨t144, A970, H⟩ := H
                       try dsimp only at H
                       have A97 := A_ A970
                       clear A970
                       have H' := A_ H
                       clear H
                       try go_wp2
                       have n0_ : Aside0 (Kd.R (Kd.int .i64) 3 ((w79.setCell ⟨gb134, 0, none⟩ (.int .i64 t131)).setCell ⟨gb134, 1, none⟩ (.int .i64 t132)) w.heap.size (fun _ => True) (.slice (some ad122) x13_2.length co62) x13_2) := ⟨by (with_reducible repeat (first | apply Kd.R_alloc | apply Kd.R_drewN | apply Kd.R_drew)); exact Kd.R_mono (Kd.R_far (p := ⟨gb134, 1, none⟩) (Kd.R_far (p := ⟨gb134, 0, none⟩) (Kd.R_types HO_13.out BK134.out (by decide)) (fun _ hk => hk.2) (.int .i64 t131)) (fun _ hk => hk.2) (.int .i64 t132)) (fun _ hk => trivial)⟩
                       have n1_ : Aside0 (((w79.setCell ⟨gb134, 0, none⟩ (.int .i64 t131)).setCell ⟨gb134, 1, none⟩ (.int .i64 t132)).heap[gb107]? = some (.cells #[.int .i64 a0_0, .int .i64 a0_1] 48 (0, 0))) := ⟨by (with_reducible repeat (first | refine blk_drewN ?_ _ | refine blk_drew ?_ | refine blk_alloc ?_ _)); refine blk_far ?_ NB107_134.out _; (with_reducible repeat (first | refine blk_drewN ?_ _ | refine blk_drew ?_ | refine blk_alloc ?_ _)); refine blk_far ?_ NB107_134.out _; (with_reducible repeat (first | refine blk_drewN ?_ _ | refine blk_drew ?_ | refine blk_alloc ?_ _)); exact BK107.out⟩
                       have n2_ : Aside0 (((w79.setCell ⟨gb134, 0, none⟩ (.int .i64 t131)).setCell ⟨gb134, 1, none⟩ (.int .i64 t132)).heap[gb108]? = some (.cells #[.slice A1 l1.length c1] 26 (0, 0))) := ⟨by (with_reducible repeat (first | refine blk_drewN ?_ _ | refine blk_drew ?_ | refine blk_alloc ?_ _)); refine blk_far ?_ NB108_134.out _; (with_reducible repeat (first | refine blk_drewN ?_ _ | refine blk_drew ?_ | refine blk_alloc ?_ _)); refine blk_far ?_ NB108_134.out _; (with_reducible repeat (first | refine blk_drewN ?_ _ | refine blk_drew ?_ | refine blk_alloc ?_ _)); exact BK108.out⟩
                       have n3_ : Aside0 (((w79.setCell ⟨gb134, 0, none⟩ (.int .i64 t131)).setCell ⟨gb134, 1, none⟩ (.int .i64 t132)).heap[gb117]? = some (.cells #[.int .i64 x118000_3, .int .i64 x118001_3] 23 (0, 0))) := ⟨by (with_reducible repeat (first | refine blk_drewN ?_ _ | refine blk_drew ?_ | refine blk_alloc ?_ _)); refine blk_far ?_ NB117_134.out _; (with_reducible repeat (first | refine blk_drewN ?_ _ | refine blk_drew ?_ | refine blk_alloc ?_ _)); refine blk_far ?_ NB117_134.out _; (with_reducible repeat (first | refine blk_drewN ?_ _ | refine blk_drew ?_ | refine blk_alloc ?_ _)); exact BK117.out⟩
                       have n4_ : Aside0 (((w79.setCell ⟨gb134, 0, none⟩ (.int .i64 t131)).setCell ⟨gb134, 1, none⟩ (.int .i64 t132)).heap[gb130]? = some (.cells #[.int .i64 t127, .int .i64 t128] 23 (0, 0))) := ⟨by (with_reducible repeat (first | refine blk_drewN ?_ _ | refine blk_drew ?_ | refine blk_alloc ?_ _)); refine blk_far ?_ NB130_134.out _; (with_reducible repeat (first | refine blk_drewN ?_ _ | refine blk_drew ?_ | refine blk_alloc ?_ _)); refine blk_far ?_ NB130_134.out _; (with_reducible repeat (first | refine blk_drewN ?_ _ | refine blk_drew ?_ | refine blk_alloc ?_ _)); exact BK130.out⟩
                       have n5_ : Aside0 (((w79.setCell ⟨gb134, 0, none⟩ (.int .i64 t131)).setCell ⟨gb134, 1, none⟩ (.int .i64 t132)).heap[gb134]? = some (.cells #[.int .i64 t131, .int .i64 t132] 23 (0, 0))) := ⟨by (with_reducible repeat (first | refine blk_drewN ?_ _ | refine blk_drew ?_ | refine blk_alloc ?_ _)); refine blk_put (cs := #[.int .i64 t131, .int .i64 0]) ?_ 1 _ rfl; (with_reducible repeat (first | refine blk_drewN ?_ _ | refine blk_drew ?_ | refine blk_alloc ?_ _)); refine blk_put (cs := #[.int .i64 0, .int .i64 0]) ?_ 0 _ rfl; (with_reducible repeat (first | refine blk_drewN ?_ _ | refine blk_drew ?_ | refine blk_alloc ?_ _)); exact BK134.out⟩
                       have n6_ : Aside0 (Below w.heap.size w ((w79.setCell ⟨gb134, 0, none⟩ (.int .i64 t131)).setCell ⟨gb134, 1, none⟩ (.int .i64 t132))) := ⟨by repeat (first | (with_reducible first | exact HB.out | apply below_alloc | apply pw_below_drewN | apply below_drew1 | refine below_set ?_ GE107.out | refine below_set ?_ GE108.out | refine below_set ?_ GE117.out | refine below_set ?_ GE130.out | refine below_set ?_ GE134.out) | exact HB.out)⟩
                       (try clear HO_13)
                       (try clear BK107)
                       (try clear BK108)
                       (try clear BK117)
                       (try clear BK130)
                       (try clear BK134)
                       (try clear HB)
                       generalize ((w79.setCell ⟨gb134, 0, none⟩ (.int .i64 t131)).setCell ⟨gb134, 1, none⟩ (.int .i64 t132)) = w98 at n0_ n1_ n2_ n3_ n4_ n5_ n6_ ⊢
                       have HO_13 := n0_
                       have BK107 := n1_
                       have BK108 := n2_
                       have BK117 := n3_
                       have BK130 := n4_
                       have BK134 := n5_
                       have HB := n6_
                       clear n0_ n1_ n2_ n3_ n4_ n5_ n6_
                       have n0_ := A_ (Kd.R_drew HO_13.out)
                       have n1_ := A_ (blk_drew BK107.out)
                       have n2_ := A_ (blk_drew BK108.out)
                       have n3_ := A_ (blk_drew BK117.out)
                       have n4_ := A_ (blk_drew BK130.out)
                       have n5_ := A_ (blk_drew BK134.out)
                       have n6_ := A_ (below_drew1 HB.out)
                       clear HO_13
                       clear BK107
                       clear BK108
                       clear BK117
                       clear BK130
                       clear BK134
                       clear HB
                       have HO_13 := n0_
                       have BK107 := n1_
                       have BK108 := n2_
                       have BK117 := n3_
                       have BK130 := n4_
                       have BK134 := n5_
                       have HB := n6_
                       clear n0_ n1_ n2_ n3_ n4_ n5_ n6_
                       have p135 : 0 ≤ (x86_3 : Int) := of_decide_eq_true (by first | (with_reducible assumption) | assumption)
                       have q135 : x86_3 < (x13_2.length : Int) := of_decide_eq_true (by first | (with_reducible assumption) | assumption)
                       obtain ⟨ad135, e135, hx135_0⟩ := Kd.at_int (Kd.R_reads' HO_13.out).2.2 x86_3 p135 q135
                       obtain rfl : ad122 = ad135 := (by injection e135)
                       replace p135 := eq_true p135
                       replace q135 := eq_true q135
                       have p138 : 0 ≤ (x86_3 : Int) := of_decide_eq_true (by first | (with_reducible assumption) | assumption)
                       have q138 : x86_3 < (x13_2.length : Int) := of_decide_eq_true (by first | (with_reducible assumption) | assumption)
                       obtain ⟨ad138, e138, hx138_0⟩ := Kd.at_int (Kd.R_reads' HO_13.out).2.2 x86_3 p138 q138
                       obtain rfl : ad122 = ad138 := (by injection e138)
                       replace p138 := eq_true p138
                       replace q138 := eq_true q138
                       refine start_ (n := 64) (S := fun w' => w'.cell? ⟨gb130, 0, none⟩ = some (.int .i64 t127) ∧ w'.cell? ⟨gb130, 1, none⟩ = some (.int .i64 t128) ∧ w'.cell? ⟨gb107, 0, none⟩ = some (.int .i64 a0_0) ∧ w'.cell? ⟨gb107, 1, none⟩ = some (.int .i64 a0_1) ∧ w'.cell? ⟨gb134, 0, none⟩ = some (.int .i64 t131) ∧ w'.cell? ⟨gb134, 1, none⟩ = some (.int .i64 t132) ∧ w'.cell? (ad122.add (x86_3).toNat) = some (.int .i64 (rd x13_2 x86_3)) ∧ w'.cell? (ad122.add (x86_3).toNat) = some (.int .i64 (rd x13_2 x86_3))) (ds := []) #[false, false, false, false, false, false, false, false, false, false, false, false, false, false, false, false, false, false, false, false, false, false, false, false, false, false, false, false, false, false, false, false, false, false, false, false, false, false, false, false, false, false, false, false, false, false, false, false, false, false, false, false, false, false, false, false, false, false, false, false, false, false, false, false] (by kernel_rfl) rfl rfl ⟨(blk_cell BK130.out 0).trans rfl, (blk_cell BK130.out 1).trans rfl, (blk_cell BK107.out 0).trans rfl, (blk_cell BK107.out 1).trans rfl, (blk_cell BK134.out 0).trans rfl, (blk_cell BK134.out 1).trans rfl, hx135_0, hx138_0⟩ (fun hHeld => ?_); refine with_tabW cottonpadlaw04_BurnFouled.tab23 cottonpadlaw04_BurnFouled.bits23 (fun HT_ HW_ => ?_)
                       generalize w98.drew = w99 at HO_13 BK107 BK108 BK117 BK130 BK134 HB hx135_0 hx138_0 hHeld ⊢
                       refine pure_ (i := 0) (N := some 113) (v := ?_) (a' := ?_) #[true, false, false, false, false, false, false, false, false, false, false, false, false, false, false, false, false, false, false, false, false, false, false, false, false, false, false, false, false, false, false, false, false, false, false, false, false, false, false, false, false, false, false, false, false, false, false, false, false, false, false, false, false, false, false, false, false, false, false, false, false, false, false, false] rfl rfl (any_of HT_.out (by kernel_rfl)) (fun _ _ _ h => h) (Or.inl ⟨by rfl, ?_⟩) ?_ ?_
                       rotate_left
                       ·
                        intro w'
                        go_simp
                        with_reducible rfl
                       rotate_left
                       ·
                        simp only [Act.put, sT_, s0_, sS_, i64_w, i32_w]
                        rfl
                       refine pure_ (i := 1) (N := some 114) (v := ?_) (a' := ?_) #[true, true, false, false, false, false, false, false, false, false, false, false, false, false, false, false, false, false, false, false, false, false, false, false, false, false, false, false, false, false, false, false, false, false, false, false, false, false, false, false, false, false, false, false, false, false, false, false, false, false, false, false, false, false, false, false, false, false, false, false, false, false, false, false] rfl rfl (any_of HT_.out (by kernel_rfl)) (fun _ _ _ h => h) (Or.inl ⟨by rfl, ?_⟩) ?_ ?_
                       rotate_left
                       ·
                        intro w'
                        go_simp
                        with_reducible rfl
                       rotate_left
                       ·
                        simp only [Act.put, sT_, s0_, sS_, i64_w, i32_w]
                        rfl
                       refine pure_ (i := 2) (N := some 115) (v := ?_) (a' := ?_) #[true, true, true, false, false, false, false, false, false, false, false, false, false, false, false, false, false, false, false, false, false, false, false, false, false, false, false, false, false, false, false, false, false, false, false, false, false, false, false, false, false, false, false, false, false, false, false, false, false, false, false, false, false, false, false, false, false, false, false, false, false, false, false, false] rfl rfl (any_of HT_.out (by kernel_rfl)) (fun _ _ _ h => h) (Or.inl ⟨by rfl, ?_⟩) ?_ ?_
                       rotate_left
                       ·
                        intro w'
                        go_simp
                        with_reducible rfl
                       rotate_left
                       ·
                        simp only [Act.put, sT_, s0_, sS_, i64_w, i32_w]
                        rfl
                       refine pure_ (i := 3) (N := some 116) (v := ?_) (a' := ?_) #[true, true, true, true, false, false, false, false, false, false, false, false, false, false, false, false, false, false, false, false, false, false, false, false, false, false, false, false, false, false, false, false, false, false, false, false, false, false, false, false, false, false, false, false, false, false, false, false, false, false, false, false, false, false, false, false, false, false, false, false, false, false, false, false] rfl rfl (any_of HT_.out (by kernel_rfl)) (fun _ _ _ h => h) (Or.inl ⟨by rfl, ?_⟩) ?_ ?_
                       rotate_left
                       ·
                        intro w'
                        go_simp
                        with_reducible rfl
                       rotate_left
                       ·
                        simp only [Act.put, sT_, s0_, sS_, i64_w, i32_w]
                        rfl
                       refine pure_ (i := 4) (N := some 117) (v := ?_) (a' := ?_) #[true, true, true, true, true, false, false, false, false, false, false, false, false, false, false, false, false, false, false, false, false, false, false, false, false, false, false, false, false, false, false, false, false, false, false, false, false, false, false, false, false, false, false, false, false, false, false, false, false, false, false, false, false, false, false, false, false, false, false, false, false, false, false, false] rfl rfl (any_of HT_.out (by kernel_rfl)) (fun _ _ _ h => h) (Or.inl ⟨by rfl, ?_⟩) ?_ ?_
                       rotate_left
                       ·
                        intro w'
                        go_simp
                        with_reducible rfl
                       rotate_left
                       ·
                        simp only [Act.put, sT_, s0_, sS_, i64_w, i32_w]
                        rfl
                       refine pure_ (i := 5) (N := some 118) (v := ?_) (a' := ?_) #[true, true, true, true, true, true, false, false, false, false, false, false, false, false, false, false, false, false, false, false, false, false, false, false, false, false, false, false, false, false, false, false, false, false, false, false, false, false, false, false, false, false, false, false, false, false, false, false, false, false, false, false, false, false, false, false, false, false, false, false, false, false, false, false] rfl rfl (any_of HT_.out (by kernel_rfl)) (fun _ _ _ h => h) (Or.inl ⟨by rfl, ?_⟩) ?_ ?_
                       rotate_left
                       ·
                        intro w'
                        go_simp
                        with_reducible rfl
                       rotate_left
                       ·
                        simp only [Act.put, sT_, s0_, sS_, i64_w, i32_w]
                        rfl
                       refine pure_ (i := 6) (N := some 119) (v := ?_) (a' := ?_) #[true, true, true, true, true, true, true, false, false, false, false, false, false, false, false, false, false, false, false, false, false, false, false, false, false, false, false, false, false, false, false, false, false, false, false, false, false, false, false, false, false, false, false, false, false, false, false, false, false, false, false, false, false, false, false, false, false, false, false, false, false, false, false, false] rfl rfl (any_of HT_.out (by kernel_rfl)) (fun _ _ _ h => h) (Or.inl ⟨by rfl, ?_⟩) ?_ ?_
                       rotate_left
                       ·
                        intro w'
                        go_simp
                        with_reducible rfl
                       rotate_left
                       ·
                        simp only [Act.put, sT_, s0_, sS_, i64_w, i32_w]
                        rfl
                       refine pure_ (i := 8) (N := some 121) (v := ?_) (a' := ?_) #[true, true, true, true, true, true, true, false, true, false, false, false, false, false, false, false, false, false, false, false, false, false, false, false, false, false, false, false, false, false, false, false, false, false, false, false, false, false, false, false, false, false, false, false, false, false, false, false, false, false, false, false, false, false, false, false, false, false, false, false, false, false, false, false] rfl rfl (any_of HT_.out (by kernel_rfl)) (fun _ _ _ h => h) (Or.inl ⟨by rfl, ?_⟩) ?_ ?_
                       rotate_left
                       ·
                        intro w'
                        go_simp
                        with_reducible rfl
                       rotate_left
                       ·
                        simp only [Act.put, sT_, s0_, sS_, i64_w, i32_w]
                        rfl
                       refine pure_ (i := 9) (N := some 122) (v := ?_) (a' := ?_) #[true, true, true, true, true, true, true, false, true, true, false, false, false, false, false, false, false, false, false, false, false, false, false, false, false, false, false, false, false, false, false, false, false, false, false, false, false, false, false, false, false, false, false, false, false, false, false, false, false, false, false, false, false, false, false, false, false, false, false, false, false, false, false, false] rfl rfl (any_of HT_.out (by kernel_rfl)) (fun _ _ _ h => h) (Or.inl ⟨by rfl, ?_⟩) ?_ ?_
                       rotate_left
                       ·
                        intro w'
                        go_simp
                        with_reducible rfl
                       rotate_left
                       ·
                        simp only [Act.put, sT_, s0_, sS_, i64_w, i32_w]
                        rfl
                       refine pure_ (i := 10) (N := some 123) (v := ?_) (a' := ?_) #[true, true, true, true, true, true, true, false, true, true, true, false, false, false, false, false, false, false, false, false, false, false, false, false, false, false, false, false, false, false, false, false, false, false, false, false, false, false, false, false, false, false, false, false, false, false, false, false, false, false, false, false, false, false, false, false, false, false, false, false, false, false, false, false] rfl rfl (any_of HT_.out (by kernel_rfl)) (fun _ _ _ h => h) (Or.inl ⟨by rfl, ?_⟩) ?_ ?_
                       rotate_left
                       ·
                        intro w'
                        go_simp
                        with_reducible rfl
                       rotate_left
                       ·
                        simp only [Act.put, sT_, s0_, sS_, i64_w, i32_w]
                        rfl
                       refine pure_ (i := 12) (N := some 125) (v := ?_) (a' := ?_) #[true, true, true, true, true, true, true, false, true, true, true, false, true, false, false, false, false, false, false, false, false, false, false, false, false, false, false, false, false, false, false, false, false, false, false, false, false, false, false, false, false, false, false, false, false, false, false, false, false, false, false, false, false, false, false, false, false, false, false, false, false, false, false, false] rfl rfl (any_of HT_.out (by kernel_rfl)) (fun _ _ _ h => h) (Or.inl ⟨by rfl, ?_⟩) ?_ ?_
                       rotate_left
                       ·
                        intro w'
                        go_simp
                        with_reducible rfl
                       rotate_left
                       ·
                        simp only [Act.put, sT_, s0_, sS_, i64_w, i32_w]
                        rfl
                       refine take_ (i := 7) (N := some 120) (v := ?_) (a' := ?_) #[true, true, true, true, true, true, true, true, true, true, true, false, true, false, false, false, false, false, false, false, false, false, false, false, false, false, false, false, false, false, false, false, false, false, false, false, false, false, false, false, false, false, false, false, false, false, false, false, false, false, false, false, false, false, false, false, false, false, false, false, false, false, false, false] rfl rfl (take_ofW HT_.out HW_.out (by kernel_rfl)) (fun _ _ _ h => h) (Or.inl ⟨by rfl, ?_⟩) hHeld ?_ ?_
                       rotate_left
                       ·
                        rintro w' ⟨s0, s1, s2, s3, s4, s5, s6, s7⟩
                        go_simp
                        with_reducible rfl
                       rotate_left
                       ·
                        simp only [Act.put, sT_, s0_, sS_, i64_w, i32_w]
                        rfl
                       refine take_ (i := 11) (N := some 124) (v := ?_) (a' := ?_) #[true, true, true, true, true, true, true, true, true, true, true, true, true, false, false, false, false, false, false, false, false, false, false, false, false, false, false, false, false, false, false, false, false, false, false, false, false, false, false, false, false, false, false, false, false, false, false, false, false, false, false, false, false, false, false, false, false, false, false, false, false, false, false, false] rfl rfl (take_ofW HT_.out HW_.out (by kernel_rfl)) (fun _ _ _ h => h) (Or.inl ⟨by rfl, ?_⟩) hHeld ?_ ?_
                       rotate_left
                       ·
                        rintro w' ⟨s0, s1, s2, s3, s4, s5, s6, s7⟩
                        go_simp
                        with_reducible rfl
                       rotate_left
                       ·
                        simp only [Act.put, sT_, s0_, sS_, i64_w, i32_w]
                        rfl
                       refine take_ (i := 13) (N := some 126) (v := ?_) (a' := ?_) #[true, true, true, true, true, true, true, true, true, true, true, true, true, true, false, false, false, false, false, false, false, false, false, false, false, false, false, false, false, false, false, false, false, false, false, false, false, false, false, false, false, false, false, false, false, false, false, false, false, false, false, false, false, false, false, false, false, false, false, false, false, false, false, false] rfl rfl (take_ofW HT_.out HW_.out (by kernel_rfl)) (fun _ _ _ h => h) (Or.inl ⟨by rfl, ?_⟩) hHeld ?_ ?_
                       rotate_left
                       ·
                        rintro w' ⟨s0, s1, s2, s3, s4, s5, s6, s7⟩
                        go_simp
                        with_reducible rfl
                       rotate_left
                       ·
                        simp only [Act.put, sT_, s0_, sS_, i64_w, i32_w]
                        rfl
                       refine one_ (i := 14) (N := some 127) #[true, true, true, true, true, true, true, true, true, true, true, true, true, true, true, false, false, false, false, false, false, false, false, false, false, false, false, false, false, false, false, false, false, false, false, false, false, false, false, false, false, false, false, false, false, false, false, false, false, false, false, false, false, false, false, false, false, false, false, false, false, false, false, false] rfl rfl (one_of HT_.out (by kernel_rfl)) (by decide) (fun K hK => ?_)
                       refine goes_ Tryd.func35 (by kernel_rfl) rfl #[.int .i64 (rd x13_2 x86_3), .int .i64 a0_0] (by rfl) rfl rfl (by (try simp only [List.map_toArray, List.map_cons, List.map_nil]); first | done | rfl | (simp only [List.length_drop, List.length_take]; rfl)) ?_
                       with_reducible refine (cottonpadlaw04_span.calls (rd x13_2 x86_3) a0_0 t136 t137 _ A87.out).mono ?_
                       rintro e w100 ⟨rfl, hb⟩
                       have HS6_ := (hb.cell (World.block_lt_of_cell? _ _ (hHeld.2.2.2.2.2.2.1))).trans (hHeld.2.2.2.2.2.2.1)
                       have HS7_ := (hb.cell (World.block_lt_of_cell? _ _ (hHeld.2.2.2.2.2.2.2))).trans (hHeld.2.2.2.2.2.2.2)
                       refine ⟨_, rfl, ?_⟩
                       have n0_ := A_ (Kd.R_below (kr_ HO_13.out) hb)
                       have n1_ := bb_ BK107.out hb
                       have n2_ := bb_ BK108.out hb
                       have n3_ := bb_ BK117.out hb
                       have n4_ := bb_ BK130.out hb
                       have n5_ := bb_ BK134.out hb
                       have n6_ := A_ (below_step (by repeat (first | (with_reducible first | exact HB.out | apply below_alloc | apply pw_below_drewN | apply below_drew1 | refine below_set ?_ GE107.out | refine below_set ?_ GE108.out | refine below_set ?_ GE117.out | refine below_set ?_ GE130.out | refine below_set ?_ GE134.out) | exact HB.out)) hb)
                       clear HO_13
                       clear BK107
                       clear BK108
                       clear BK117
                       clear BK130
                       clear BK134
                       clear HB
                       have HO_13 := n0_
                       have BK107 := n1_
                       have BK108 := n2_
                       have BK117 := n3_
                       have BK130 := n4_
                       have BK134 := n5_
                       have HB := n6_
                       clear n0_ n1_ n2_ n3_ n4_ n5_ n6_
                       (try clear hb)
                       (try clear hb2)
                       (try clear hk)
                       (try clear hi)
                       refine hK.out _ _ ⟨(blk_cell BK130.out 0).trans rfl, (blk_cell BK130.out 1).trans rfl, (blk_cell BK107.out 0).trans rfl, (blk_cell BK107.out 1).trans rfl, (blk_cell BK134.out 0).trans rfl, (blk_cell BK134.out 1).trans rfl, HS6_, HS7_⟩ (fun hHeld => ?_)
                       clear hK K
                       refine norm_ (a' := ?_) ?_ ?_
                       rotate_left
                       ·
                        show Act.put _ (some 127) _ = _
                        simp only [Act.put, sT_, s0_, sS_, i64_w, i32_w]
                        rfl
                       refine pure_ (i := 15) (N := some 128) (v := ?_) (a' := ?_) #[true, true, true, true, true, true, true, true, true, true, true, true, true, true, true, true, false, false, false, false, false, false, false, false, false, false, false, false, false, false, false, false, false, false, false, false, false, false, false, false, false, false, false, false, false, false, false, false, false, false, false, false, false, false, false, false, false, false, false, false, false, false, false, false] rfl rfl (any_of HT_.out (by kernel_rfl)) (fun _ _ _ h => h) (Or.inl ⟨by rfl, ?_⟩) ?_ ?_
                       rotate_left
                       ·
                        intro w'
                        go_simp
                        with_reducible rfl
                       rotate_left
                       ·
                        simp only [Act.put, sT_, s0_, sS_, i64_w, i32_w]
                        rfl
                       refine pure_ (i := 16) (N := some 129) (v := ?_) (a' := ?_) #[true, true, true, true, true, true, true, true, true, true, true, true, true, true, true, true, true, false, false, false, false, false, false, false, false, false, false, false, false, false, false, false, false, false, false, false, false, false, false, false, false, false, false, false, false, false, false, false, false, false, false, false, false, false, false, false, false, false, false, false, false, false, false, false] rfl rfl (any_of HT_.out (by kernel_rfl)) (fun _ _ _ h => h) (Or.inl ⟨by rfl, ?_⟩) ?_ ?_
                       rotate_left
                       ·
                        intro w'
                        go_simp
                        with_reducible rfl
                       rotate_left
                       ·
                        simp only [Act.put, sT_, s0_, sS_, i64_w, i32_w]
                        rfl
                       refine pure_ (i := 17) (N := some 130) (v := ?_) (a' := ?_) #[true, true, true, true, true, true, true, true, true, true, true, true, true, true, true, true, true, true, false, false, false, false, false, false, false, false, false, false, false, false, false, false, false, false, false, false, false, false, false, false, false, false, false, false, false, false, false, false, false, false, false, false, false, false, false, false, false, false, false, false, false, false, false, false] rfl rfl (any_of HT_.out (by kernel_rfl)) (fun _ _ _ h => h) (Or.inl ⟨by rfl, ?_⟩) ?_ ?_
                       rotate_left
                       ·
                        intro w'
                        go_simp
                        with_reducible rfl
                       rotate_left
                       ·
                        simp only [Act.put, sT_, s0_, sS_, i64_w, i32_w]
                        rfl
                       refine pure_ (i := 18) (N := some 131) (v := ?_) (a' := ?_) #[true, true, true, true, true, true, true, true, true, true, true, true, true, true, true, true, true, true, true, false, false, false, false, false, false, false, false, false, false, false, false, false, false, false, false, false, false, false, false, false, false, false, false, false, false, false, false, false, false, false, false, false, false, false, false, false, false, false, false, false, false, false, false, false] rfl rfl (any_of HT_.out (by kernel_rfl)) (fun _ _ _ h => h) (Or.inl ⟨by rfl, ?_⟩) ?_ ?_
                       rotate_left
                       ·
                        intro w'
                        go_simp
                        with_reducible rfl
                       rotate_left
                       ·
                        simp only [Act.put, sT_, s0_, sS_, i64_w, i32_w]
                        rfl
                       refine pure_ (i := 19) (N := some 132) (v := ?_) (a' := ?_) #[true, true, true, true, true, true, true, true, true, true, true, true, true, true, true, true, true, true, true, true, false, false, false, false, false, false, false, false, false, false, false, false, false, false, false, false, false, false, false, false, false, false, false, false, false, false, false, false, false, false, false, false, false, false, false, false, false, false, false, false, false, false, false, false] rfl rfl (any_of HT_.out (by kernel_rfl)) (fun _ _ _ h => h) (Or.inl ⟨by rfl, ?_⟩) ?_ ?_
                       rotate_left
                       ·
                        intro w'
                        go_simp
                        with_reducible rfl
                       rotate_left
                       ·
                        simp only [Act.put, sT_, s0_, sS_, i64_w, i32_w]
                        rfl
                       refine take_ (i := 20) (N := some 133) (v := ?_) (a' := ?_) #[true, true, true, true, true, true, true, true, true, true, true, true, true, true, true, true, true, true, true, true, true, false, false, false, false, false, false, false, false, false, false, false, false, false, false, false, false, false, false, false, false, false, false, false, false, false, false, false, false, false, false, false, false, false, false, false, false, false, false, false, false, false, false, false] rfl rfl (take_ofW HT_.out HW_.out (by kernel_rfl)) (fun _ _ _ h => h) (Or.inl ⟨by rfl, ?_⟩) hHeld ?_ ?_
                       rotate_left
                       ·
                        rintro w' ⟨s0, s1, s2, s3, s4, s5, s6, s7⟩
                        go_simp
                        with_reducible rfl
                       rotate_left
                       ·
                        simp only [Act.put, sT_, s0_, sS_, i64_w, i32_w]
                        rfl
                       refine pure_ (i := 21) (N := some 134) (v := ?_) (a' := ?_) #[true, true, true, true, true, true, true, true, true, true, true, true, true, true, true, true, true, true, true, true, true, true, false, false, false, false, false, false, false, false, false, false, false, false, false, false, false, false, false, false, false, false, false, false, false, false, false, false, false, false, false, false, false, false, false, false, false, false, false, false, false, false, false, false] rfl rfl (any_of HT_.out (by kernel_rfl)) (fun _ _ _ h => h) (Or.inl ⟨by rfl, ?_⟩) ?_ ?_
                       rotate_left
                       ·
                        intro w'
                        go_simp
                        with_reducible rfl
                       rotate_left
                       ·
                        simp only [Act.put, sT_, s0_, sS_, i64_w, i32_w]
                        rfl
                       refine pure_ (i := 22) (N := some 135) (v := ?_) (a' := ?_) #[true, true, true, true, true, true, true, true, true, true, true, true, true, true, true, true, true, true, true, true, true, true, true, false, false, false, false, false, false, false, false, false, false, false, false, false, false, false, false, false, false, false, false, false, false, false, false, false, false, false, false, false, false, false, false, false, false, false, false, false, false, false, false, false] rfl rfl (any_of HT_.out (by kernel_rfl)) (fun _ _ _ h => h) (Or.inl ⟨by rfl, ?_⟩) ?_ ?_
                       rotate_left
                       ·
                        intro w'
                        go_simp
                        with_reducible rfl
                       rotate_left
                       ·
                        simp only [Act.put, sT_, s0_, sS_, i64_w, i32_w]
                        rfl
                       refine pure_ (i := 23) (N := some 136) (v := ?_) (a' := ?_) #[true, true, true, true, true, true, true, true, true, true, true, true, true, true, true, true, true, true, true, true, true, true, true, true, false, false, false, false, false, false, false, false, false, false, false, false, false, false, false, false, false, false, false, false, false, false, false, false, false, false, false, false, false, false, false, false, false, false, false, false, false, false, false, false] rfl rfl (any_of HT_.out (by kernel_rfl)) (fun _ _ _ h => h) (Or.inl ⟨by rfl, ?_⟩) ?_ ?_
                       rotate_left
                       ·
                        intro w'
                        go_simp
                        with_reducible rfl
                       rotate_left
                       ·
                        simp only [Act.put, sT_, s0_, sS_, i64_w, i32_w]
                        rfl
                       refine pure_ (i := 24) (N := some 137) (v := ?_) (a' := ?_) #[true, true, true, true, true, true, true, true, true, true, true, true, true, true, true, true, true, true, true, true, true, true, true, true, true, false, false, false, false, false, false, false, false, false, false, false, false, false, false, false, false, false, false, false, false, false, false, false, false, false, false, false, false, false, false, false, false, false, false, false, false, false, false, false] rfl rfl (any_of HT_.out (by kernel_rfl)) (fun _ _ _ h => h) (Or.inl ⟨by rfl, ?_⟩) ?_ ?_
                       rotate_left
                       ·
                        intro w'
                        go_simp
                        with_reducible rfl
                       rotate_left
                       ·
                        simp only [Act.put, sT_, s0_, sS_, i64_w, i32_w]
                        rfl
                       refine pure_ (i := 25) (N := some 138) (v := ?_) (a' := ?_) #[true, true, true, true, true, true, true, true, true, true, true, true, true, true, true, true, true, true, true, true, true, true, true, true, true, true, false, false, false, false, false, false, false, false, false, false, false, false, false, false, false, false, false, false, false, false, false, false, false, false, false, false, false, false, false, false, false, false, false, false, false, false, false, false] rfl rfl (any_of HT_.out (by kernel_rfl)) (fun _ _ _ h => h) (Or.inl ⟨by rfl, ?_⟩) ?_ ?_
                       rotate_left
                       ·
                        intro w'
                        go_simp
                        with_reducible rfl
                       rotate_left
                       ·
                        simp only [Act.put, sT_, s0_, sS_, i64_w, i32_w]
                        rfl
                       refine take_ (i := 26) (N := some 139) (v := ?_) (a' := ?_) #[true, true, true, true, true, true, true, true, true, true, true, true, true, true, true, true, true, true, true, true, true, true, true, true, true, true, true, false, false, false, false, false, false, false, false, false, false, false, false, false, false, false, false, false, false, false, false, false, false, false, false, false, false, false, false, false, false, false, false, false, false, false, false, false] rfl rfl (take_ofW HT_.out HW_.out (by kernel_rfl)) (fun _ _ _ h => h) (Or.inl ⟨by rfl, ?_⟩) hHeld ?_ ?_
                       rotate_left
                       ·
                        rintro w' ⟨s0, s1, s2, s3, s4, s5, s6, s7⟩
                        go_simp
                        with_reducible rfl
                       rotate_left
                       ·
                        simp only [Act.put, sT_, s0_, sS_, i64_w, i32_w]
                        rfl
                       refine pure_ (i := 27) (N := some 140) (v := ?_) (a' := ?_) #[true, true, true, true, true, true, true, true, true, true, true, true, true, true, true, true, true, true, true, true, true, true, true, true, true, true, true, true, false, false, false, false, false, false, false, false, false, false, false, false, false, false, false, false, false, false, false, false, false, false, false, false, false, false, false, false, false, false, false, false, false, false, false, false] rfl rfl (any_of HT_.out (by kernel_rfl)) (fun _ _ _ h => h) (Or.inl ⟨by rfl, ?_⟩) ?_ ?_
                       rotate_left
                       ·
                        intro w'
                        go_simp
                        with_reducible rfl
                       rotate_left
                       ·
                        simp only [Act.put, sT_, s0_, sS_, i64_w, i32_w]
                        rfl
                       refine pure_ (i := 28) (N := some 141) (v := ?_) (a' := ?_) #[true, true, true, true, true, true, true, true, true, true, true, true, true, true, true, true, true, true, true, true, true, true, true, true, true, true, true, true, true, false, false, false, false, false, false, false, false, false, false, false, false, false, false, false, false, false, false, false, false, false, false, false, false, false, false, false, false, false, false, false, false, false, false, false] rfl rfl (any_of HT_.out (by kernel_rfl)) (fun _ _ _ h => h) (Or.inl ⟨by rfl, ?_⟩) ?_ ?_
                       rotate_left
                       ·
                        intro w'
                        go_simp
                        with_reducible rfl
                       rotate_left
                       ·
                        simp only [Act.put, sT_, s0_, sS_, i64_w, i32_w]
                        rfl
                       refine pure_ (i := 29) (N := some 142) (v := ?_) (a' := ?_) #[true, true, true, true, true, true, true, true, true, true, true, true, true, true, true, true, true, true, true, true, true, true, true, true, true, true, true, true, true, true, false, false, false, false, false, false, false, false, false, false, false, false, false, false, false, false, false, false, false, false, false, false, false, false, false, false, false, false, false, false, false, false, false, false] rfl rfl (any_of HT_.out (by kernel_rfl)) (fun _ _ _ h => h) (Or.inl ⟨by rfl, ?_⟩) ?_ ?_
                       rotate_left
                       ·
                        intro w'
                        go_simp
                        with_reducible rfl
                       rotate_left
                       ·
                        simp only [Act.put, sT_, s0_, sS_, i64_w, i32_w]
                        rfl
                       refine pure_ (i := 31) (N := some 144) (v := ?_) (a' := ?_) #[true, true, true, true, true, true, true, true, true, true, true, true, true, true, true, true, true, true, true, true, true, true, true, true, true, true, true, true, true, true, false, true, false, false, false, false, false, false, false, false, false, false, false, false, false, false, false, false, false, false, false, false, false, false, false, false, false, false, false, false, false, false, false, false] rfl rfl (any_of HT_.out (by kernel_rfl)) (fun _ _ _ h => h) (Or.inl ⟨by rfl, ?_⟩) ?_ ?_
                       rotate_left
                       ·
                        intro w'
                        go_simp
                        with_reducible rfl
                       rotate_left
                       ·
                        simp only [Act.put, sT_, s0_, sS_, i64_w, i32_w]
                        rfl
                       refine pure_ (i := 32) (N := some 145) (v := ?_) (a' := ?_) #[true, true, true, true, true, true, true, true, true, true, true, true, true, true, true, true, true, true, true, true, true, true, true, true, true, true, true, true, true, true, false, true, true, false, false, false, false, false, false, false, false, false, false, false, false, false, false, false, false, false, false, false, false, false, false, false, false, false, false, false, false, false, false, false] rfl rfl (any_of HT_.out (by kernel_rfl)) (fun _ _ _ h => h) (Or.inl ⟨by rfl, ?_⟩) ?_ ?_
                       rotate_left
                       ·
                        intro w'
                        go_simp
                        with_reducible rfl
                       rotate_left
                       ·
                        simp only [Act.put, sT_, s0_, sS_, i64_w, i32_w]
                        rfl
                       refine pure_ (i := 33) (N := some 146) (v := ?_) (a' := ?_) #[true, true, true, true, true, true, true, true, true, true, true, true, true, true, true, true, true, true, true, true, true, true, true, true, true, true, true, true, true, true, false, true, true, true, false, false, false, false, false, false, false, false, false, false, false, false, false, false, false, false, false, false, false, false, false, false, false, false, false, false, false, false, false, false] rfl rfl (any_of HT_.out (by kernel_rfl)) (fun _ _ _ h => h) (Or.inl ⟨by rfl, ?_⟩) ?_ ?_
                       rotate_left
                       ·
                        intro w'
                        go_simp
                        with_reducible rfl
                       rotate_left
                       ·
                        simp only [Act.put, sT_, s0_, sS_, i64_w, i32_w]
                        rfl
                       refine pure_ (i := 34) (N := some 147) (v := ?_) (a' := ?_) #[true, true, true, true, true, true, true, true, true, true, true, true, true, true, true, true, true, true, true, true, true, true, true, true, true, true, true, true, true, true, false, true, true, true, true, false, false, false, false, false, false, false, false, false, false, false, false, false, false, false, false, false, false, false, false, false, false, false, false, false, false, false, false, false] rfl rfl (any_of HT_.out (by kernel_rfl)) (fun _ _ _ h => h) (Or.inl ⟨by rfl, ?_⟩) ?_ ?_
                       rotate_left
                       ·
                        intro w'
                        go_simp
                        with_reducible rfl
                       rotate_left
                       ·
                        simp only [Act.put, sT_, s0_, sS_, i64_w, i32_w]
                        rfl
                       refine pure_ (i := 35) (N := some 148) (v := ?_) (a' := ?_) #[true, true, true, true, true, true, true, true, true, true, true, true, true, true, true, true, true, true, true, true, true, true, true, true, true, true, true, true, true, true, false, true, true, true, true, true, false, false, false, false, false, false, false, false, false, false, false, false, false, false, false, false, false, false, false, false, false, false, false, false, false, false, false, false] rfl rfl (any_of HT_.out (by kernel_rfl)) (fun _ _ _ h => h) (Or.inl ⟨by rfl, ?_⟩) ?_ ?_
                       rotate_left
                       ·
                        intro w'
                        go_simp
                        with_reducible rfl
                       rotate_left
                       ·
                        simp only [Act.put, sT_, s0_, sS_, i64_w, i32_w]
                        rfl
                       refine pure_ (i := 38) (N := some 151) (v := ?_) (a' := ?_) #[true, true, true, true, true, true, true, true, true, true, true, true, true, true, true, true, true, true, true, true, true, true, true, true, true, true, true, true, true, true, false, true, true, true, true, true, false, false, true, false, false, false, false, false, false, false, false, false, false, false, false, false, false, false, false, false, false, false, false, false, false, false, false, false] rfl rfl (any_of HT_.out (by kernel_rfl)) (fun _ _ _ h => h) (Or.inl ⟨by rfl, ?_⟩) ?_ ?_
                       rotate_left
                       ·
                        intro w'
                        go_simp
                        with_reducible rfl
                       rotate_left
                       ·
                        simp only [Act.put, sT_, s0_, sS_, i64_w, i32_w]
                        rfl
                       refine pure_ (i := 39) (N := some 152) (v := ?_) (a' := ?_) #[true, true, true, true, true, true, true, true, true, true, true, true, true, true, true, true, true, true, true, true, true, true, true, true, true, true, true, true, true, true, false, true, true, true, true, true, false, false, true, true, false, false, false, false, false, false, false, false, false, false, false, false, false, false, false, false, false, false, false, false, false, false, false, false] rfl rfl (any_of HT_.out (by kernel_rfl)) (fun _ _ _ h => h) (Or.inl ⟨by rfl, ?_⟩) ?_ ?_
                       rotate_left
                       ·
                        intro w'
                        go_simp
                        with_reducible rfl
                       rotate_left
                       ·
                        simp only [Act.put, sT_, s0_, sS_, i64_w, i32_w]
                        rfl
                       refine pure_ (i := 40) (N := some 153) (v := ?_) (a' := ?_) #[true, true, true, true, true, true, true, true, true, true, true, true, true, true, true, true, true, true, true, true, true, true, true, true, true, true, true, true, true, true, false, true, true, true, true, true, false, false, true, true, true, false, false, false, false, false, false, false, false, false, false, false, false, false, false, false, false, false, false, false, false, false, false, false] rfl rfl (any_of HT_.out (by kernel_rfl)) (fun _ _ _ h => h) (Or.inl ⟨by rfl, ?_⟩) ?_ ?_
                       rotate_left
                       ·
                        intro w'
                        go_simp
                        with_reducible rfl
                       rotate_left
                       ·
                        simp only [Act.put, sT_, s0_, sS_, i64_w, i32_w]
                        rfl
                       refine take_ (i := 30) (N := some 143) (v := ?_) (a' := ?_) #[true, true, true, true, true, true, true, true, true, true, true, true, true, true, true, true, true, true, true, true, true, true, true, true, true, true, true, true, true, true, true, true, true, true, true, true, false, false, true, true, true, false, false, false, false, false, false, false, false, false, false, false, false, false, false, false, false, false, false, false, false, false, false, false] rfl rfl (take_ofW HT_.out HW_.out (by kernel_rfl)) (fun _ _ _ h => h) (Or.inl ⟨by rfl, ?_⟩) hHeld ?_ ?_
                       rotate_left
                       ·
                        rintro w' ⟨s0, s1, s2, s3, s4, s5, s6, s7⟩
                        go_simp
                        with_reducible rfl
                       rotate_left
                       ·
                        simp only [Act.put, sT_, s0_, sS_, i64_w, i32_w]
                        rfl
                       refine take_ (i := 36) (N := some 149) (v := ?_) (a' := ?_) #[true, true, true, true, true, true, true, true, true, true, true, true, true, true, true, true, true, true, true, true, true, true, true, true, true, true, true, true, true, true, true, true, true, true, true, true, true, false, true, true, true, false, false, false, false, false, false, false, false, false, false, false, false, false, false, false, false, false, false, false, false, false, false, false] rfl rfl (take_ofW HT_.out HW_.out (by kernel_rfl)) (fun _ _ _ h => h) (Or.inl ⟨by rfl, ?_⟩) hHeld ?_ ?_
                       rotate_left
                       ·
                        rintro w' ⟨s0, s1, s2, s3, s4, s5, s6, s7⟩
                        go_simp
                        with_reducible rfl
                       rotate_left
                       ·
                        simp only [Act.put, sT_, s0_, sS_, i64_w, i32_w]
                        rfl
                       refine take_ (i := 41) (N := some 154) (v := ?_) (a' := ?_) #[true, true, true, true, true, true, true, true, true, true, true, true, true, true, true, true, true, true, true, true, true, true, true, true, true, true, true, true, true, true, true, true, true, true, true, true, true, false, true, true, true, true, false, false, false, false, false, false, false, false, false, false, false, false, false, false, false, false, false, false, false, false, false, false] rfl rfl (take_ofW HT_.out HW_.out (by kernel_rfl)) (fun _ _ _ h => h) (Or.inl ⟨by rfl, ?_⟩) hHeld ?_ ?_
                       rotate_left
                       ·
                        rintro w' ⟨s0, s1, s2, s3, s4, s5, s6, s7⟩
                        go_simp
                        with_reducible rfl
                       rotate_left
                       ·
                        simp only [Act.put, sT_, s0_, sS_, i64_w, i32_w]
                        rfl
                       refine one_ (i := 37) (N := some 150) #[true, true, true, true, true, true, true, true, true, true, true, true, true, true, true, true, true, true, true, true, true, true, true, true, true, true, true, true, true, true, true, true, true, true, true, true, true, true, true, true, true, true, false, false, false, false, false, false, false, false, false, false, false, false, false, false, false, false, false, false, false, false, false, false] rfl rfl (one_of HT_.out (by kernel_rfl)) (by decide) (fun K hK => ?_)
                       refine goesC_ Tryd.func38 (by kernel_rfl) rfl #[.int .i64 x86_3, .int .i64 (rd x13_2 x86_3), .pointer (some ⟨gb108, 0, none⟩)] (by rfl) rfl rfl rfl (by (try simp only [List.map_toArray, List.map_cons, List.map_nil, List.append_toArray, List.cons_append, List.nil_append]); first | done | rfl) ?_
                       with_reducible refine (cottonpadlaw04_BurnFouled_1.calls x86_3 (rd x13_2 x86_3) A1 c1 l1 t139 _ ?side1 ?side2 A91.out gb108 ?sideB).mono ?_
                       (case sideB => first | ((with_reducible refine (blk_cell BK108.out 0).trans ?_); rfl) | ((with_reducible refine (blk_cell (blk_drewN BK108.out _) 0).trans ?_); rfl) | ((with_reducible refine (blk_cell (blk_drewN (blk_drewN BK108.out _) _) 0).trans ?_); rfl) | ((with_reducible refine (blk_cell (blk_drewN (blk_drewN (blk_drewN BK108.out _) _) _) 0).trans ?_); rfl) | ((with_reducible refine (blk_cell (blk_drewN (blk_drewN (blk_drewN (blk_drewN BK108.out _) _) _) _) 0).trans ?_); rfl) | ((with_reducible refine (cell_far (p := ⟨gb107, 1, none⟩) NB108_107.out _).trans ?_); (with_reducible refine (cell_far (p := ⟨gb107, 0, none⟩) NB108_107.out _).trans ?_); (with_reducible refine (blk_cell BK108.out 0).trans ?_); rfl) | ((with_reducible refine (cell_far (p := ⟨gb117, 1, none⟩) NB108_117.out _).trans ?_); (with_reducible refine (cell_far (p := ⟨gb117, 0, none⟩) NB108_117.out _).trans ?_); (with_reducible refine (blk_cell BK108.out 0).trans ?_); rfl) | ((with_reducible refine (cell_far (p := ⟨gb121, 1, none⟩) NB108_121.out _).trans ?_); (with_reducible refine (cell_far (p := ⟨gb121, 0, none⟩) NB108_121.out _).trans ?_); (with_reducible refine (blk_cell BK108.out 0).trans ?_); rfl) | ((with_reducible refine (cell_far (p := ⟨gb130, 1, none⟩) NB108_130.out _).trans ?_); (with_reducible refine (cell_far (p := ⟨gb130, 0, none⟩) NB108_130.out _).trans ?_); (with_reducible refine (blk_cell BK108.out 0).trans ?_); rfl) | ((with_reducible refine (cell_far (p := ⟨gb134, 1, none⟩) NB108_134.out _).trans ?_); (with_reducible refine (cell_far (p := ⟨gb134, 0, none⟩) NB108_134.out _).trans ?_); (with_reducible refine (blk_cell BK108.out 0).trans ?_); rfl))
                       (case side1 => repeat (first | exact (Kd.C_below HR1.out HB.out) | (with_reducible refine Kd.C_alloc ?_ _) | (with_reducible refine Kd.C_drewN ?_ _) | (with_reducible refine Kd.C_drew ?_)))
                       (case side2 => exact HC1.out)
                       rintro e w' ⟨rfl, ⟨nd, rfl⟩⟩
                       refine ⟨_, rfl, ?_⟩
                       refine hK.out _ _ ⟨(blk_cell BK130.out 0).trans rfl, (blk_cell BK130.out 1).trans rfl, (blk_cell BK107.out 0).trans rfl, (blk_cell BK107.out 1).trans rfl, (blk_cell BK134.out 0).trans rfl, (blk_cell BK134.out 1).trans rfl, hHeld.2.2.2.2.2.2.1, hHeld.2.2.2.2.2.2.2⟩ (fun hHeld => ?_)
                       clear hK K
                       refine norm_ (a' := ?_) ?_ ?_
                       rotate_left
                       ·
                        show Act.put _ (some 150) _ = _
                        simp only [Act.put, sT_, s0_, sS_, i64_w, i32_w]
                        rfl
                       refine one_ (i := 42) (N := some 155) #[true, true, true, true, true, true, true, true, true, true, true, true, true, true, true, true, true, true, true, true, true, true, true, true, true, true, true, true, true, true, true, true, true, true, true, true, true, true, true, true, true, true, true, false, false, false, false, false, false, false, false, false, false, false, false, false, false, false, false, false, false, false, false, false] rfl rfl (one_of HT_.out (by kernel_rfl)) (by decide) (fun K hK => ?_)
                       refine goesC_ Tryd.func38 (by kernel_rfl) rfl #[.int .i64 x86_3, .int .i64 a0_0, .pointer (some ⟨gb108, 0, none⟩)] (by rfl) rfl rfl rfl (by (try simp only [List.map_toArray, List.map_cons, List.map_nil, List.append_toArray, List.cons_append, List.nil_append]); first | done | rfl) ?_
                       with_reducible refine (cottonpadlaw04_BurnFouled_1.calls x86_3 a0_0 A1 c1 l1 t140 _ ?side1 ?side2 A92.out gb108 ?sideB).mono ?_
                       (case sideB => first | ((with_reducible refine (blk_cell BK108.out 0).trans ?_); rfl) | ((with_reducible refine (blk_cell (blk_drewN BK108.out _) 0).trans ?_); rfl) | ((with_reducible refine (blk_cell (blk_drewN (blk_drewN BK108.out _) _) 0).trans ?_); rfl) | ((with_reducible refine (blk_cell (blk_drewN (blk_drewN (blk_drewN BK108.out _) _) _) 0).trans ?_); rfl) | ((with_reducible refine (blk_cell (blk_drewN (blk_drewN (blk_drewN (blk_drewN BK108.out _) _) _) _) 0).trans ?_); rfl) | ((with_reducible refine (cell_far (p := ⟨gb107, 1, none⟩) NB108_107.out _).trans ?_); (with_reducible refine (cell_far (p := ⟨gb107, 0, none⟩) NB108_107.out _).trans ?_); (with_reducible refine (blk_cell BK108.out 0).trans ?_); rfl) | ((with_reducible refine (cell_far (p := ⟨gb117, 1, none⟩) NB108_117.out _).trans ?_); (with_reducible refine (cell_far (p := ⟨gb117, 0, none⟩) NB108_117.out _).trans ?_); (with_reducible refine (blk_cell BK108.out 0).trans ?_); rfl) | ((with_reducible refine (cell_far (p := ⟨gb121, 1, none⟩) NB108_121.out _).trans ?_); (with_reducible refine (cell_far (p := ⟨gb121, 0, none⟩) NB108_121.out _).trans ?_); (with_reducible refine (blk_cell BK108.out 0).trans ?_); rfl) | ((with_reducible refine (cell_far (p := ⟨gb130, 1, none⟩) NB108_130.out _).trans ?_); (with_reducible refine (cell_far (p := ⟨gb130, 0, none⟩) NB108_130.out _).trans ?_); (with_reducible refine (blk_cell BK108.out 0).trans ?_); rfl) | ((with_reducible refine (cell_far (p := ⟨gb134, 1, none⟩) NB108_134.out _).trans ?_); (with_reducible refine (cell_far (p := ⟨gb134, 0, none⟩) NB108_134.out _).trans ?_); (with_reducible refine (blk_cell BK108.out 0).trans ?_); rfl))
                       (case side1 => repeat (first | exact (Kd.C_below HR1.out (by repeat (first | (with_reducible first | exact HB.out | apply below_alloc | apply pw_below_drewN | apply below_drew1 | refine below_set ?_ GE107.out | refine below_set ?_ GE108.out | refine below_set ?_ GE117.out | refine below_set ?_ GE130.out | refine below_set ?_ GE134.out) | exact HB.out))) | (with_reducible refine Kd.C_alloc ?_ _) | (with_reducible refine Kd.C_drewN ?_ _) | (with_reducible refine Kd.C_drew ?_)))
                       (case side2 => exact HC1.out)
                       rintro e w' ⟨rfl, ⟨nd, rfl⟩⟩
                       refine ⟨_, rfl, ?_⟩
                       refine hK.out _ _ ⟨(blk_cell BK130.out 0).trans rfl, (blk_cell BK130.out 1).trans rfl, (blk_cell BK107.out 0).trans rfl, (blk_cell BK107.out 1).trans rfl, (blk_cell BK134.out 0).trans rfl, (blk_cell BK134.out 1).trans rfl, hHeld.2.2.2.2.2.2.1, hHeld.2.2.2.2.2.2.2⟩ (fun hHeld => ?_)
                       clear hK K
                       refine norm_ (a' := ?_) ?_ ?_
                       rotate_left
                       ·
                        show Act.put _ (some 155) _ = _
                        simp only [Act.put, sT_, s0_, sS_, i64_w, i32_w]
                        rfl
                       refine one_ (i := 43) (N := some 156) #[true, true, true, true, true, true, true, true, true, true, true, true, true, true, true, true, true, true, true, true, true, true, true, true, true, true, true, true, true, true, true, true, true, true, true, true, true, true, true, true, true, true, true, true, false, false, false, false, false, false, false, false, false, false, false, false, false, false, false, false, false, false, false, false] rfl rfl (one_of HT_.out (by kernel_rfl)) (by decide) (fun K hK => ?_)
                       refine goes_ Tryd.func35 (by kernel_rfl) rfl #[.int .i64 t139, .int .i64 t140] (by rfl) rfl rfl (by (try simp only [List.map_toArray, List.map_cons, List.map_nil]); first | done | rfl | (simp only [List.length_drop, List.length_take]; rfl)) ?_
                       with_reducible refine (cottonpadlaw04_span.calls t139 t140 t141 t142 _ A93.out).mono ?_
                       rintro e w101 ⟨rfl, hb⟩
                       have HS6_ := (hb.cell (World.block_lt_of_cell? _ _ (hHeld.2.2.2.2.2.2.1))).trans (hHeld.2.2.2.2.2.2.1)
                       have HS7_ := (hb.cell (World.block_lt_of_cell? _ _ (hHeld.2.2.2.2.2.2.2))).trans (hHeld.2.2.2.2.2.2.2)
                       refine ⟨_, rfl, ?_⟩
                       have n0_ := A_ (Kd.R_below (kr_ HO_13.out) hb)
                       have n1_ := bb_ BK107.out hb
                       have n2_ := bb_ BK108.out hb
                       have n3_ := bb_ BK117.out hb
                       have n4_ := bb_ BK130.out hb
                       have n5_ := bb_ BK134.out hb
                       have n6_ := A_ (below_step (by repeat (first | (with_reducible first | exact HB.out | apply below_alloc | apply pw_below_drewN | apply below_drew1 | refine below_set ?_ GE107.out | refine below_set ?_ GE108.out | refine below_set ?_ GE117.out | refine below_set ?_ GE130.out | refine below_set ?_ GE134.out) | exact HB.out)) hb)
                       clear HO_13
                       clear BK107
                       clear BK108
                       clear BK117
                       clear BK130
                       clear BK134
                       clear HB
                       have HO_13 := n0_
                       have BK107 := n1_
                       have BK108 := n2_
                       have BK117 := n3_
                       have BK130 := n4_
                       have BK134 := n5_
                       have HB := n6_
                       clear n0_ n1_ n2_ n3_ n4_ n5_ n6_
                       (try clear hb)
                       (try clear hb2)
                       (try clear hk)
                       (try clear hi)
                       refine hK.out _ _ ⟨(blk_cell BK130.out 0).trans rfl, (blk_cell BK130.out 1).trans rfl, (blk_cell BK107.out 0).trans rfl, (blk_cell BK107.out 1).trans rfl, (blk_cell BK134.out 0).trans rfl, (blk_cell BK134.out 1).trans rfl, HS6_, HS7_⟩ (fun hHeld => ?_)
                       clear hK K
                       refine norm_ (a' := ?_) ?_ ?_
                       rotate_left
                       ·
                        show Act.put _ (some 156) _ = _
                        simp only [Act.put, sT_, s0_, sS_, i64_w, i32_w]
                        rfl
                       refine pure_ (i := 44) (N := some 157) (v := ?_) (a' := ?_) #[true, true, true, true, true, true, true, true, true, true, true, true, true, true, true, true, true, true, true, true, true, true, true, true, true, true, true, true, true, true, true, true, true, true, true, true, true, true, true, true, true, true, true, true, true, false, false, false, false, false, false, false, false, false, false, false, false, false, false, false, false, false, false, false] rfl rfl (any_of HT_.out (by kernel_rfl)) (fun _ _ _ h => h) (Or.inl ⟨by rfl, ?_⟩) ?_ ?_
                       rotate_left
                       ·
                        intro w'
                        go_simp
                        with_reducible rfl
                       rotate_left
                       ·
                        simp only [Act.put, sT_, s0_, sS_, i64_w, i32_w]
                        rfl
                       refine pure_ (i := 45) (N := some 158) (v := ?_) (a' := ?_) #[true, true, true, true, true, true, true, true, true, true, true, true, true, true, true, true, true, true, true, true, true, true, true, true, true, true, true, true, true, true, true, true, true, true, true, true, true, true, true, true, true, true, true, true, true, true, false, false, false, false, false, false, false, false, false, false, false, false, false, false, false, false, false, false] rfl rfl (any_of HT_.out (by kernel_rfl)) (fun _ _ _ h => h) (Or.inl ⟨by rfl, ?_⟩) ?_ ?_
                       rotate_left
                       ·
                        intro w'
                        go_simp
                        with_reducible rfl
                       rotate_left
                       ·
                        simp only [Act.put, sT_, s0_, sS_, i64_w, i32_w]
                        rfl
                       refine pure_ (i := 46) (N := some 159) (v := ?_) (a' := ?_) #[true, true, true, true, true, true, true, true, true, true, true, true, true, true, true, true, true, true, true, true, true, true, true, true, true, true, true, true, true, true, true, true, true, true, true, true, true, true, true, true, true, true, true, true, true, true, true, false, false, false, false, false, false, false, false, false, false, false, false, false, false, false, false, false] rfl rfl (any_of HT_.out (by kernel_rfl)) (fun _ _ _ h => h) (Or.inl ⟨by rfl, ?_⟩) ?_ ?_
                       rotate_left
                       ·
                        intro w'
                        go_simp
                        with_reducible rfl
                       rotate_left
                       ·
                        simp only [Act.put, sT_, s0_, sS_, i64_w, i32_w]
                        rfl
                       refine pure_ (i := 47) (N := some 160) (v := ?_) (a' := ?_) #[true, true, true, true, true, true, true, true, true, true, true, true, true, true, true, true, true, true, true, true, true, true, true, true, true, true, true, true, true, true, true, true, true, true, true, true, true, true, true, true, true, true, true, true, true, true, true, true, false, false, false, false, false, false, false, false, false, false, false, false, false, false, false, false] rfl rfl (any_of HT_.out (by kernel_rfl)) (fun _ _ _ h => h) (Or.inl ⟨by rfl, ?_⟩) ?_ ?_
                       rotate_left
                       ·
                        intro w'
                        go_simp
                        with_reducible rfl
                       rotate_left
                       ·
                        simp only [Act.put, sT_, s0_, sS_, i64_w, i32_w]
                        rfl
                       refine pure_ (i := 48) (N := some 161) (v := ?_) (a' := ?_) #[true, true, true, true, true, true, true, true, true, true, true, true, true, true, true, true, true, true, true, true, true, true, true, true, true, true, true, true, true, true, true, true, true, true, true, true, true, true, true, true, true, true, true, true, true, true, true, true, true, false, false, false, false, false, false, false, false, false, false, false, false, false, false, false] rfl rfl (any_of HT_.out (by kernel_rfl)) (fun _ _ _ h => h) (Or.inl ⟨by rfl, ?_⟩) ?_ ?_
                       rotate_left
                       ·
                        intro w'
                        go_simp
                        with_reducible rfl
                       rotate_left
                       ·
                        simp only [Act.put, sT_, s0_, sS_, i64_w, i32_w]
                        rfl
                       refine pure_ (i := 49) (N := some 162) (v := ?_) (a' := ?_) #[true, true, true, true, true, true, true, true, true, true, true, true, true, true, true, true, true, true, true, true, true, true, true, true, true, true, true, true, true, true, true, true, true, true, true, true, true, true, true, true, true, true, true, true, true, true, true, true, true, true, false, false, false, false, false, false, false, false, false, false, false, false, false, false] rfl rfl (any_of HT_.out (by kernel_rfl)) (fun _ _ _ h => h) (Or.inl ⟨by rfl, ?_⟩) ?_ ?_
                       rotate_left
                       ·
                        intro w'
                        go_simp
                        with_reducible rfl
                       rotate_left
                       ·
                        simp only [Act.put, sT_, s0_, sS_, i64_w, i32_w]
                        rfl
                       refine pure_ (i := 51) (N := some 164) (v := ?_) (a' := ?_) #[true, true, true, true, true, true, true, true, true, true, true, true, true, true, true, true, true, true, true, true, true, true, true, true, true, true, true, true, true, true, true, true, true, true, true, true, true, true, true, true, true, true, true, true, true, true, true, true, true, true, false, true, false, false, false, false, false, false, false, false, false, false, false, false] rfl rfl (any_of HT_.out (by kernel_rfl)) (fun _ _ _ h => h) (Or.inl ⟨by rfl, ?_⟩) ?_ ?_
                       rotate_left
                       ·
                        intro w'
                        go_simp
                        with_reducible rfl
                       rotate_left
                       ·
                        simp only [Act.put, sT_, s0_, sS_, i64_w, i32_w]
                        rfl
                       refine take_ (i := 52) (N := some 165) (v := ?_) (a' := ?_) #[true, true, true, true, true, true, true, true, true, true, true, true, true, true, true, true, true, true, true, true, true, true, true, true, true, true, true, true, true, true, true, true, true, true, true, true, true, true, true, true, true, true, true, true, true, true, true, true, true, true, false, true, true, false, false, false, false, false, false, false, false, false, false, false] rfl rfl (take_ofW HT_.out HW_.out (by kernel_rfl)) (fun _ _ _ h => h) (Or.inl ⟨by rfl, ?_⟩) hHeld ?_ ?_
                       rotate_left
                       ·
                        rintro w' ⟨s0, s1, s2, s3, s4, s5, s6, s7⟩
                        go_simp
                        with_reducible rfl
                       rotate_left
                       ·
                        simp only [Act.put, sT_, s0_, sS_, i64_w, i32_w]
                        rfl
                       refine one_ (i := 50) (N := some 163) #[true, true, true, true, true, true, true, true, true, true, true, true, true, true, true, true, true, true, true, true, true, true, true, true, true, true, true, true, true, true, true, true, true, true, true, true, true, true, true, true, true, true, true, true, true, true, true, true, true, true, true, true, true, false, false, false, false, false, false, false, false, false, false, false] rfl rfl (one_of HT_.out (by kernel_rfl)) (by decide) (fun K hK => ?_)
                       refine goesC_ Tryd.func38 (by kernel_rfl) rfl #[.int .i64 x86_3, .int .i64 t126, .pointer (some ⟨gb108, 0, none⟩)] (by rfl) rfl rfl rfl (by (try simp only [List.map_toArray, List.map_cons, List.map_nil, List.append_toArray, List.cons_append, List.nil_append]); first | done | rfl) ?_
                       with_reducible refine (cottonpadlaw04_BurnFouled_1.calls x86_3 t126 A1 c1 l1 t143 _ ?side1 ?side2 A95.out gb108 ?sideB).mono ?_
                       (case sideB => first | ((with_reducible refine (blk_cell BK108.out 0).trans ?_); rfl) | ((with_reducible refine (blk_cell (blk_drewN BK108.out _) 0).trans ?_); rfl) | ((with_reducible refine (blk_cell (blk_drewN (blk_drewN BK108.out _) _) 0).trans ?_); rfl) | ((with_reducible refine (blk_cell (blk_drewN (blk_drewN (blk_drewN BK108.out _) _) _) 0).trans ?_); rfl) | ((with_reducible refine (blk_cell (blk_drewN (blk_drewN (blk_drewN (blk_drewN BK108.out _) _) _) _) 0).trans ?_); rfl) | ((with_reducible refine (cell_far (p := ⟨gb107, 1, none⟩) NB108_107.out _).trans ?_); (with_reducible refine (cell_far (p := ⟨gb107, 0, none⟩) NB108_107.out _).trans ?_); (with_reducible refine (blk_cell BK108.out 0).trans ?_); rfl) | ((with_reducible refine (cell_far (p := ⟨gb117, 1, none⟩) NB108_117.out _).trans ?_); (with_reducible refine (cell_far (p := ⟨gb117, 0, none⟩) NB108_117.out _).trans ?_); (with_reducible refine (blk_cell BK108.out 0).trans ?_); rfl) | ((with_reducible refine (cell_far (p := ⟨gb121, 1, none⟩) NB108_121.out _).trans ?_); (with_reducible refine (cell_far (p := ⟨gb121, 0, none⟩) NB108_121.out _).trans ?_); (with_reducible refine (blk_cell BK108.out 0).trans ?_); rfl) | ((with_reducible refine (cell_far (p := ⟨gb130, 1, none⟩) NB108_130.out _).trans ?_); (with_reducible refine (cell_far (p := ⟨gb130, 0, none⟩) NB108_130.out _).trans ?_); (with_reducible refine (blk_cell BK108.out 0).trans ?_); rfl) | ((with_reducible refine (cell_far (p := ⟨gb134, 1, none⟩) NB108_134.out _).trans ?_); (with_reducible refine (cell_far (p := ⟨gb134, 0, none⟩) NB108_134.out _).trans ?_); (with_reducible refine (blk_cell BK108.out 0).trans ?_); rfl))
                       (case side1 => repeat (first | exact (Kd.C_below HR1.out HB.out) | (with_reducible refine Kd.C_alloc ?_ _) | (with_reducible refine Kd.C_drewN ?_ _) | (with_reducible refine Kd.C_drew ?_)))
                       (case side2 => exact HC1.out)
                       rintro e w' ⟨rfl, ⟨nd, rfl⟩⟩
                       refine ⟨_, rfl, ?_⟩
                       refine hK.out _ _ ⟨(blk_cell BK130.out 0).trans rfl, (blk_cell BK130.out 1).trans rfl, (blk_cell BK107.out 0).trans rfl, (blk_cell BK107.out 1).trans rfl, (blk_cell BK134.out 0).trans rfl, (blk_cell BK134.out 1).trans rfl, hHeld.2.2.2.2.2.2.1, hHeld.2.2.2.2.2.2.2⟩ (fun hHeld => ?_)
                       clear hK K
                       refine norm_ (a' := ?_) ?_ ?_
                       rotate_left
                       ·
                        show Act.put _ (some 163) _ = _
                        simp only [Act.put, sT_, s0_, sS_, i64_w, i32_w]
                        rfl
                       refine pure_ (i := 53) (N := some 166) (v := ?_) (a' := ?_) #[true, true, true, true, true, true, true, true, true, true, true, true, true, true, true, true, true, true, true, true, true, true, true, true, true, true, true, true, true, true, true, true, true, true, true, true, true, true, true, true, true, true, true, true, true, true, true, true, true, true, true, true, true, true, false, false, false, false, false, false, false, false, false, false] rfl rfl (any_of HT_.out (by kernel_rfl)) (fun _ _ _ h => h) (Or.inl ⟨by rfl, ?_⟩) ?_ ?_
                       rotate_left
                       ·
                        intro w'
                        go_simp
                        with_reducible rfl
                       rotate_left
                       ·
                        simp only [Act.put, sT_, s0_, sS_, i64_w, i32_w]
                        rfl
                       refine pure_ (i := 54) (N := some 167) (v := ?_) (a' := ?_) #[true, true, true, true, true, true, true, true, true, true, true, true, true, true, true, true, true, true, true, true, true, true, true, true, true, true, true, true, true, true, true, true, true, true, true, true, true, true, true, true, true, true, true, true, true, true, true, true, true, true, true, true, true, true, true, false, false, false, false, false, false, false, false, false] rfl rfl (any_of HT_.out (by kernel_rfl)) (fun _ _ _ h => h) (Or.inl ⟨by rfl, ?_⟩) ?_ ?_
                       rotate_left
                       ·
                        intro w'
                        go_simp
                        with_reducible rfl
                       rotate_left
                       ·
                        simp only [Act.put, sT_, s0_, sS_, i64_w, i32_w]
                        rfl
                       refine pure_ (i := 55) (N := some 168) (v := ?_) (a' := ?_) #[true, true, true, true, true, true, true, true, true, true, true, true, true, true, true, true, true, true, true, true, true, true, true, true, true, true, true, true, true, true, true, true, true, true, true, true, true, true, true, true, true, true, true, true, true, true, true, true, true, true, true, true, true, true, true, true, false, false, false, false, false, false, false, false] rfl rfl (any_of HT_.out (by kernel_rfl)) (fun _ _ _ h => h) (Or.inl ⟨by rfl, ?_⟩) ?_ ?_
                       rotate_left
                       ·
                        intro w'
                        go_simp
                        with_reducible rfl
                       rotate_left
                       ·
                        simp only [Act.put, sT_, s0_, sS_, i64_w, i32_w]
                        rfl
                       refine pure_ (i := 56) (N := some 169) (v := ?_) (a' := ?_) #[true, true, true, true, true, true, true, true, true, true, true, true, true, true, true, true, true, true, true, true, true, true, true, true, true, true, true, true, true, true, true, true, true, true, true, true, true, true, true, true, true, true, true, true, true, true, true, true, true, true, true, true, true, true, true, true, true, false, false, false, false, false, false, false] rfl rfl (any_of HT_.out (by kernel_rfl)) (fun _ _ _ h => h) (Or.inl ⟨by rfl, ?_⟩) ?_ ?_
                       rotate_left
                       ·
                        intro w'
                        go_simp
                        with_reducible rfl
                       rotate_left
                       ·
                        simp only [Act.put, sT_, s0_, sS_, i64_w, i32_w]
                        rfl
                       refine pure_ (i := 57) (N := some 170) (v := ?_) (a' := ?_) #[true, true, true, true, true, true, true, true, true, true, true, true, true, true, true, true, true, true, true, true, true, true, true, true, true, true, true, true, true, true, true, true, true, true, true, true, true, true, true, true, true, true, true, true, true, true, true, true, true, true, true, true, true, true, true, true, true, true, false, false, false, false, false, false] rfl rfl (any_of HT_.out (by kernel_rfl)) (fun _ _ _ h => h) (Or.inl ⟨by rfl, ?_⟩) ?_ ?_
                       rotate_left
                       ·
                        intro w'
                        go_simp
                        with_reducible rfl
                       rotate_left
                       ·
                        simp only [Act.put, sT_, s0_, sS_, i64_w, i32_w]
                        rfl
                       refine pure_ (i := 58) (N := some 171) (v := ?_) (a' := ?_) #[true, true, true, true, true, true, true, true, true, true, true, true, true, true, true, true, true, true, true, true, true, true, true, true, true, true, true, true, true, true, true, true, true, true, true, true, true, true, true, true, true, true, true, true, true, true, true, true, true, true, true, true, true, true, true, true, true, true, true, false, false, false, false, false] rfl rfl (any_of HT_.out (by kernel_rfl)) (fun _ _ _ h => h) (Or.inl ⟨by rfl, ?_⟩) ?_ ?_
                       rotate_left
                       ·
                        intro w'
                        go_simp
                        with_reducible rfl
                       rotate_left
                       ·
                        simp only [Act.put, sT_, s0_, sS_, i64_w, i32_w]
                        rfl
                       refine pure_ (i := 60) (N := some 173) (v := ?_) (a' := ?_) #[true, true, true, true, true, true, true, true, true, true, true, true, true, true, true, true, true, true, true, true, true, true, true, true, true, true, true, true, true, true, true, true, true, true, true, true, true, true, true, true, true, true, true, true, true, true, true, true, true, true, true, true, true, true, true, true, true, true, true, false, true, false, false, false] rfl rfl (any_of HT_.out (by kernel_rfl)) (fun _ _ _ h => h) (Or.inl ⟨by rfl, ?_⟩) ?_ ?_
                       rotate_left
                       ·
                        intro w'
                        go_simp
                        with_reducible rfl
                       rotate_left
                       ·
                        simp only [Act.put, sT_, s0_, sS_, i64_w, i32_w]
                        rfl
                       refine take_ (i := 61) (N := some 174) (v := ?_) (a' := ?_) #[true, true, true, true, true, true, true, true, true, true, true, true, true, true, true, true, true, true, true, true, true, true, true, true, true, true, true, true, true, true, true, true, true, true, true, true, true, true, true, true, true, true, true, true, true, true, true, true, true, true, true, true, true, true, true, true, true, true, true, false, true, true, false, false] rfl rfl (take_ofW HT_.out HW_.out (by kernel_rfl)) (fun _ _ _ h => h) (Or.inl ⟨by rfl, ?_⟩) hHeld ?_ ?_
                       rotate_left
                       ·
                        rintro w' ⟨s0, s1, s2, s3, s4, s5, s6, s7⟩
                        go_simp
                        with_reducible rfl
                       rotate_left
                       ·
                        simp only [Act.put, sT_, s0_, sS_, i64_w, i32_w]
                        rfl
                       refine one_ (i := 59) (N := some 172) #[true, true, true, true, true, true, true, true, true, true, true, true, true, true, true, true, true, true, true, true, true, true, true, true, true, true, true, true, true, true, true, true, true, true, true, true, true, true, true, true, true, true, true, true, true, true, true, true, true, true, true, true, true, true, true, true, true, true, true, true, true, true, false, false] rfl rfl (one_of HT_.out (by kernel_rfl)) (by decide) (fun K hK => ?_)
                       refine goesC_ Tryd.func38 (by kernel_rfl) rfl #[.int .i64 x86_3, .int .i64 t126, .pointer (some ⟨gb108, 0, none⟩)] (by rfl) rfl rfl rfl (by (try simp only [List.map_toArray, List.map_cons, List.map_nil, List.append_toArray, List.cons_append, List.nil_append]); first | done | rfl) ?_
                       with_reducible refine (cottonpadlaw04_BurnFouled_1.calls x86_3 t126 A1 c1 l1 t144 _ ?side1 ?side2 A97.out gb108 ?sideB).mono ?_
                       (case sideB => first | ((with_reducible refine (blk_cell BK108.out 0).trans ?_); rfl) | ((with_reducible refine (blk_cell (blk_drewN BK108.out _) 0).trans ?_); rfl) | ((with_reducible refine (blk_cell (blk_drewN (blk_drewN BK108.out _) _) 0).trans ?_); rfl) | ((with_reducible refine (blk_cell (blk_drewN (blk_drewN (blk_drewN BK108.out _) _) _) 0).trans ?_); rfl) | ((with_reducible refine (blk_cell (blk_drewN (blk_drewN (blk_drewN (blk_drewN BK108.out _) _) _) _) 0).trans ?_); rfl) | ((with_reducible refine (cell_far (p := ⟨gb107, 1, none⟩) NB108_107.out _).trans ?_); (with_reducible refine (cell_far (p := ⟨gb107, 0, none⟩) NB108_107.out _).trans ?_); (with_reducible refine (blk_cell BK108.out 0).trans ?_); rfl) | ((with_reducible refine (cell_far (p := ⟨gb117, 1, none⟩) NB108_117.out _).trans ?_); (with_reducible refine (cell_far (p := ⟨gb117, 0, none⟩) NB108_117.out _).trans ?_); (with_reducible refine (blk_cell BK108.out 0).trans ?_); rfl) | ((with_reducible refine (cell_far (p := ⟨gb121, 1, none⟩) NB108_121.out _).trans ?_); (with_reducible refine (cell_far (p := ⟨gb121, 0, none⟩) NB108_121.out _).trans ?_); (with_reducible refine (blk_cell BK108.out 0).trans ?_); rfl) | ((with_reducible refine (cell_far (p := ⟨gb130, 1, none⟩) NB108_130.out _).trans ?_); (with_reducible refine (cell_far (p := ⟨gb130, 0, none⟩) NB108_130.out _).trans ?_); (with_reducible refine (blk_cell BK108.out 0).trans ?_); rfl) | ((with_reducible refine (cell_far (p := ⟨gb134, 1, none⟩) NB108_134.out _).trans ?_); (with_reducible refine (cell_far (p := ⟨gb134, 0, none⟩) NB108_134.out _).trans ?_); (with_reducible refine (blk_cell BK108.out 0).trans ?_); rfl))
                       (case side1 => repeat (first | exact (Kd.C_below HR1.out (by repeat (first | (with_reducible first | exact HB.out | apply below_alloc | apply pw_below_drewN | apply below_drew1 | refine below_set ?_ GE107.out | refine below_set ?_ GE108.out | refine below_set ?_ GE117.out | refine below_set ?_ GE130.out | refine below_set ?_ GE134.out) | exact HB.out))) | (with_reducible refine Kd.C_alloc ?_ _) | (with_reducible refine Kd.C_drewN ?_ _) | (with_reducible refine Kd.C_drew ?_)))
                       (case side2 => exact HC1.out)
                       rintro e w' ⟨rfl, ⟨nd, rfl⟩⟩
                       refine ⟨_, rfl, ?_⟩
                       refine hK.out _ _ ⟨(blk_cell BK130.out 0).trans rfl, (blk_cell BK130.out 1).trans rfl, (blk_cell BK107.out 0).trans rfl, (blk_cell BK107.out 1).trans rfl, (blk_cell BK134.out 0).trans rfl, (blk_cell BK134.out 1).trans rfl, hHeld.2.2.2.2.2.2.1, hHeld.2.2.2.2.2.2.2⟩ (fun hHeld => ?_)
                       clear hK K
                       refine norm_ (a' := ?_) ?_ ?_
                       rotate_left
                       ·
                        show Act.put _ (some 172) _ = _
                        simp only [Act.put, sT_, s0_, sS_, i64_w, i32_w]
                        rfl
                       refine pure_ (i := 62) (N := some 175) (v := ?_) (a' := ?_) #[true, true, true, true, true, true, true, true, true, true, true, true, true, true, true, true, true, true, true, true, true, true, true, true, true, true, true, true, true, true, true, true, true, true, true, true, true, true, true, true, true, true, true, true, true, true, true, true, true, true, true, true, true, true, true, true, true, true, true, true, true, true, true, false] rfl rfl (any_of HT_.out (by kernel_rfl)) (fun _ _ _ h => h) (Or.inl ⟨by rfl, ?_⟩) ?_ ?_
                       rotate_left
                       ·
                        intro w'
                        go_simp
                        with_reducible rfl
                       rotate_left
                       ·
                        simp only [Act.put, sT_, s0_, sS_, i64_w, i32_w]
                        rfl
                       refine pure_ (i := 63) (N := some 176) (v := ?_) (a' := ?_) #[true, true, true, true, true, true, true, true, true, true, true, true, true, true, true, true, true, true, true, true, true, true, true, true, true, true, true, true, true, true, true, true, true, true, true, true, true, true, true, true, true, true, true, true, true, true, true, true, true, true, true, true, true, true, true, true, true, true, true, true, true, true, true, true] rfl rfl (any_of HT_.out (by kernel_rfl)) (fun _ _ _ h => h) (Or.inl ⟨by rfl, ?_⟩) ?_ ?_
                       rotate_left
                       ·
                        intro w'
                        go_simp
                        with_reducible rfl
                       rotate_left
                       ·
                        simp only [Act.put, sT_, s0_, sS_, i64_w, i32_w]
                        rfl
                       refine done_ (done_of HT_.out (by kernel_rfl)) ?_
                       try go_wp2
                       go_meet
                       case rel => exact ⟨_, (decide (t144 > t132)), (by first | rfl | (simp; done) | (simp [*]; done)), H', ⟨by have := HJ6.out; have := HK2.out; have := HK3.out; first | omega | exact Nat.le_refl _⟩, ⟨by (with_reducible repeat (first | apply Kd.R_alloc | apply Kd.R_drewN | apply Kd.R_drew)); exact HO_13.out⟩, ⟨by (with_reducible repeat (first | refine blk_drewN ?_ _ | refine blk_drew ?_ | refine blk_alloc ?_ _)); exact BK107.out⟩, ⟨by (with_reducible repeat (first | refine blk_drewN ?_ _ | refine blk_drew ?_ | refine blk_alloc ?_ _)); exact BK108.out⟩, ⟨by (with_reducible repeat (first | refine blk_drewN ?_ _ | refine blk_drew ?_ | refine blk_alloc ?_ _)); exact BK117.out⟩, ⟨by (with_reducible repeat (first | refine blk_drewN ?_ _ | refine blk_drew ?_ | refine blk_alloc ?_ _)); exact BK130.out⟩, ⟨by (with_reducible repeat (first | refine blk_drewN ?_ _ | refine blk_drew ?_ | refine blk_alloc ?_ _)); exact BK134.out⟩, ⟨by repeat (first | (with_reducible first | exact HB.out | apply below_alloc | apply pw_below_drewN | apply below_drew1 | refine below_set ?_ GE107.out | refine below_set ?_ GE108.out | refine below_set ?_ GE117.out | refine below_set ?_ GE130.out | refine below_set ?_ GE134.out) | exact HB.out)⟩⟩
                 ·
                  rw [if_neg c86] at H
                  have c86b0 : (t133 == 0) = false := beq_eq_false_iff_ne.mpr c86
                  have c86b1 : (t133 != 0) = true := bne_iff_ne.mpr c86
                  exact absurd H (by simp)
                ·
                 rw [if_neg c85] at H
                 have c85b0 : (t129 == 0) = false := beq_eq_false_iff_ne.mpr c85
                 have c85b1 : (t129 != 0) = true := bne_iff_ne.mpr c85
                 (first | rw [c85b0] | (simp only [i64_w, i32_w]; rw [c85b0]) | skip)
                 exact absurd H (by simp)
               case rest =>
                clear HC61
                try clear c1
                try clear p2
                try clear c3
                try clear c8
                try clear c35
                try clear c38
                try clear c85
                try clear c85b0
                try clear c85b1
                try clear c86
                try clear c86b0
                try clear c86b1
                obtain ⟨kq, x176_60, rfl, HA, HJ60, HO_13, BK107, BK108, BK117, BK130, BK134, HB⟩ := hcut
                cases kq with
                | zero => exact absurd HA.out (by simp [cottonpadlaw04_BurnFouled.j3])
                | succ kj60 =>
                 have H := HA.out
                 clear HA
                 simp only [cottonpadlaw04_BurnFouled.j3] at H
                 by_cases c102 : x176_60 = true
                 ·
                  subst c102
                  have H1 : (none) = some r := by rw [if_pos rfl] at H; exact H
                  clear H
                  have H := H1
                  clear H1
                  exact absurd H (by simp)
                 ·
                  replace c102 := Bool.eq_false_iff.mpr c102
                  subst c102
                  have H1 : (if x86_3 ≥ ji44 then (cottonpadlaw04_BurnFouled.j4 kj60 l2 t109 x13_2 ji44 ji45 t126 x21_3 x86_3 (l1.length : Int) x86_3 (decide (x86_3 < ji45)) a0_0 a0_1 l1 x118000_3 x118001_3 t131 t132) else (cottonpadlaw04_BurnFouled.j4 kj60 l2 t109 x13_2 ji44 ji45 t126 x21_3 x86_3 (l1.length : Int) x86_3 false a0_0 a0_1 l1 x118000_3 x118001_3 t131 t132)) = some r := by rw [if_neg (show ¬ (false = true) by decide)] at H; exact H
                  clear H
                  have H := H1
                  clear H1
                  have HC103 := A_ H
                  clear H
                  go_upto_region 25 with (fail)
                  go_cut [184] (fun v184 wc => ∃ (kq : Nat) (x184_102 : Bool), v184 = .bool x184_102 ∧ Aside0 (cottonpadlaw04_BurnFouled.j4 kq l2 t109 x13_2 ji44 ji45 t126 x21_3 x86_3 (l1.length : Int) x86_3 x184_102 a0_0 a0_1 l1 x118000_3 x118001_3 t131 t132 = some r) ∧ Aside0 (kq ≤ kj60) ∧ Aside0 (Kd.R (Kd.int .i64) 3 wc w.heap.size (fun _ => True) (.slice (some ad122) x13_2.length co62) x13_2) ∧ Aside0 (wc.heap[gb107]? = some (.cells #[.int .i64 a0_0, .int .i64 a0_1] 48 (0, 0))) ∧ Aside0 (wc.heap[gb108]? = some (.cells #[(.slice A1 l1.length c1)] 26 (0, 0))) ∧ Aside0 (wc.heap[gb117]? = some (.cells #[.int .i64 x118000_3, .int .i64 x118001_3] 23 (0, 0))) ∧ Aside0 (wc.heap[gb130]? = some (.cells #[.int .i64 t127, .int .i64 t128] 23 (0, 0))) ∧ Aside0 (wc.heap[gb134]? = some (.cells #[.int .i64 t131, .int .i64 t132] 23 (0, 0))) ∧ Aside0 (Below w.heap.size w wc))
                  case first =>
                   have H := HC103.out
                   clear HC103
                   by_cases c104 : x86_3 ≥ ji44
                   ·
                    rw [if_pos c104] at H
                    have c104b0 : decide (ji44 ≤ x86_3) = true := decide_eq_true c104
                    clear c104
                    (first | rw [c104b0] | (simp only [i64_w, i32_w]; rw [c104b0]) | skip)
                    have H' := A_ H
                    clear H
                    go_wp2
                    go_meet
                    case rel => exact ⟨_, (decide (x86_3 < ji45)), (by first | rfl | (simp; done) | (simp only [← hji45] <;> (first | rfl | simp)) | (simp [*]; done)), H', ⟨by have := HJ6.out; have := HK2.out; have := HK3.out; have := HJ60.out; first | omega | exact Nat.le_refl _⟩, ⟨by (with_reducible repeat (first | apply Kd.R_alloc | apply Kd.R_drewN | apply Kd.R_drew)); exact HO_13.out⟩, ⟨by (with_reducible repeat (first | refine blk_drewN ?_ _ | refine blk_drew ?_ | refine blk_alloc ?_ _)); exact BK107.out⟩, ⟨by (with_reducible repeat (first | refine blk_drewN ?_ _ | refine blk_drew ?_ | refine blk_alloc ?_ _)); exact BK108.out⟩, ⟨by (with_reducible repeat (first | refine blk_drewN ?_ _ | refine blk_drew ?_ | refine blk_alloc ?_ _)); exact BK117.out⟩, ⟨by (with_reducible repeat (first | refine blk_drewN ?_ _ | refine blk_drew ?_ | refine blk_alloc ?_ _)); exact BK130.out⟩, ⟨by (with_reducible repeat (first | refine blk_drewN ?_ _ | refine blk_drew ?_ | refine blk_alloc ?_ _)); exact BK134.out⟩, ⟨by repeat (first | (with_reducible first | exact HB.out | apply below_alloc | apply pw_below_drewN | apply below_drew1 | refine below_set ?_ GE107.out | refine below_set ?_ GE108.out | refine below_set ?_ GE117.out | refine below_set ?_ GE130.out | refine below_set ?_ GE134.out) | exact HB.out)⟩⟩
                   ·
                    rw [if_neg c104] at H
                    have c104b0 : decide (ji44 ≤ x86_3) = false := decide_eq_false c104
                    clear c104
                    (first | rw [c104b0] | (simp only [i64_w, i32_w]; rw [c104b0]) | skip)
                    have H' := A_ H
                    clear H
                    go_wp2
                    go_meet
                    case rel => exact ⟨_, (false), (by first | rfl | (simp; done) | (simp [*]; done)), H', ⟨by have := HJ6.out; have := HK2.out; have := HK3.out; have := HJ60.out; first | omega | exact Nat.le_refl _⟩, ⟨by (with_reducible repeat (first | apply Kd.R_alloc | apply Kd.R_drewN | apply Kd.R_drew)); exact HO_13.out⟩, ⟨by (with_reducible repeat (first | refine blk_drewN ?_ _ | refine blk_drew ?_ | refine blk_alloc ?_ _)); exact BK107.out⟩, ⟨by (with_reducible repeat (first | refine blk_drewN ?_ _ | refine blk_drew ?_ | refine blk_alloc ?_ _)); exact BK108.out⟩, ⟨by (with_reducible repeat (first | refine blk_drewN ?_ _ | refine blk_drew ?_ | refine blk_alloc ?_ _)); exact BK117.out⟩, ⟨by (with_reducible repeat (first | refine blk_drewN ?_ _ | refine blk_drew ?_ | refine blk_alloc ?_ _)); exact BK130.out⟩, ⟨by (with_reducible repeat (first | refine blk_drewN ?_ _ | refine blk_drew ?_ | refine blk_alloc ?_ _)); exact BK134.out⟩, ⟨by repeat (first | (with_reducible first | exact HB.out | apply below_alloc | apply pw_below_drewN | apply below_drew1 | refine below_set ?_ GE107.out | refine below_set ?_ GE108.out | refine below_set ?_ GE117.out | refine below_set ?_ GE130.out | refine below_set ?_ GE134.out) | exact HB.out)⟩⟩
                  case rest =>
                   clear HC103
                   try clear c1
                   try clear p2
                   try clear c3
                   try clear c8
                   try clear c10
                   try clear c35
                   try clear c38
                   try clear c85
                   try clear c85b0
                   try clear c85b1
                   try clear c86
                   try clear c86b0
                   try clear c86b1
                   try clear c102
                   try clear c104
                   try clear c104b0
                   try clear p2
                   obtain ⟨kq, x184_102, rfl, HA, HJ102, HO_13, BK107, BK108, BK117, BK130, BK134, HB⟩ := hcut
                   cases kq with
                   | zero => exact absurd HA.out (by simp [cottonpadlaw04_BurnFouled.j4])
                   | succ kj102 =>
                    have H := HA.out
                    clear HA
                    simp only [cottonpadlaw04_BurnFouled.j4] at H
                    by_cases c105 : x184_102 = true
                    ·
                     subst c105
                     have H1 : ((cottonpadlaw04_span.f (wrap64 (x118000_3 + t131)) (wrap64 (x118001_3 + t132))).bind fun bt145 => ((cottonpadlaw04_BurnFouled_1.f x86_3 t126 l1).bind fun t147 => (cottonpadlaw04_BurnFouled.l1 kj102 l2 t109 x13_2 ji44 ji45 t126 (wrap64 (x21_3 + t147)) (l1.length : Int) (wrap64 (x86_3 + 1)) a0_0 a0_1 l1 bt145.1 bt145.2))) = some r := by rw [if_pos rfl] at H; exact H
                     clear H
                     have H := H1
                     clear H1
                     replace H := Option.bind_eq_some_iff.mp H
                     obtain ⟨⟨t145, t146⟩, A1060, H⟩ := H
                     try dsimp only at H
                     have A106 := A_ A1060
                     clear A1060
                     replace H := Option.bind_eq_some_iff.mp H
                     obtain ⟨t147, A1070, H⟩ := H
                     try dsimp only at H
                     have A107 := A_ A1070
                     clear A1070
                     have H' := A_ H
                     clear H
                     have hnb108 := NB117_107.out
                     have hnc108 := NB107_117.out
                     have hnb109 := NB117_108.out
                     have hnc109 := NB108_117.out
                     have hnb110 := NB117_130.out
                     have hnc110 := NB130_117.out
                     have hnb111 := NB117_134.out
                     have hnc111 := NB134_117.out
                     have hcz112_0 : wc.cell? ⟨gb117, 0, none⟩ = some (.int .i64 x118000_3) := (blk_cell BK117.out 0).trans rfl
                     have hcz112_1 : wc.cell? ⟨gb117, 1, none⟩ = some (.int .i64 x118001_3) := (blk_cell BK117.out 1).trans rfl
                     have hfz112_0 := blk_frozen BK117.out 0
                     have hfz112_1 := blk_frozen BK117.out 1
                     have hnb113 := NB134_107.out
                     have hnc113 := NB107_134.out
                     have hnb114 := NB134_108.out
                     have hnc114 := NB108_134.out
                     have hnb115 := NB134_130.out
                     have hnc115 := NB130_134.out
                     have hcz116_0 : wc.cell? ⟨gb134, 0, none⟩ = some (.int .i64 t131) := (blk_cell BK134.out 0).trans rfl
                     have hcz116_1 : wc.cell? ⟨gb134, 1, none⟩ = some (.int .i64 t132) := (blk_cell BK134.out 1).trans rfl
                     have hfz116_0 := blk_frozen BK134.out 0
                     have hfz116_1 := blk_frozen BK134.out 1
                     go_wp2_with (first | ((with_reducible refine gate_callee (f := 35) rfl ?_); refine goesL_ (some 195) rfl rfl Tryd.func35 (by kernel_rfl) rfl #[.int .i64 (wrap64 (x118000_3 + t131)), .int .i64 (wrap64 (x118001_3 + t132))] rfl (by (try simp only [List.map_toArray, List.map_cons, List.map_nil]); first | done | rfl | (simp only [List.length_drop, List.length_take]; rfl)) ?_; (with_reducible refine (cottonpadlaw04_span.calls (wrap64 (x118000_3 + t131)) (wrap64 (x118001_3 + t132)) t145 t146 _ A106.out).mono ?_); rintro e w117 ⟨rfl, hb⟩; refine ⟨_, rfl, ?_⟩; have n0_ := A_ (Kd.R_below (kr_ HO_13.out) hb); have n1_ := bb_ BK107.out hb; have n2_ := bb_ BK108.out hb; have n3_ := bb_ BK117.out hb; have n4_ := bb_ BK130.out hb; have n5_ := bb_ BK134.out hb; have n6_ := A_ (below_step (by repeat (first | (with_reducible first | exact HB.out | apply below_alloc | apply pw_below_drewN | apply below_drew1 | refine below_set ?_ GE107.out | refine below_set ?_ GE108.out | refine below_set ?_ GE117.out | refine below_set ?_ GE130.out | refine below_set ?_ GE134.out) | exact HB.out)) hb); clear HO_13; clear BK107; clear BK108; clear BK117; clear BK130; clear BK134; clear HB; have HO_13 := n0_; have BK107 := n1_; have BK108 := n2_; have BK117 := n3_; have BK130 := n4_; have BK134 := n5_; have HB := n6_; clear n0_ n1_ n2_ n3_ n4_ n5_ n6_; (try clear hb); (try clear hb2); (try clear hk); (try clear hi); have hcz118_0 : w117.cell? ⟨gb117, 0, none⟩ = some (.int .i64 x118000_3) := (blk_cell BK117.out 0).trans rfl; have hcz118_1 : w117.cell? ⟨gb117, 1, none⟩ = some (.int .i64 x118001_3) := (blk_cell BK117.out 1).trans rfl; have hfz118_0 := blk_frozen BK117.out 0; have hfz118_1 := blk_frozen BK117.out 1) | fail)
                     refine (cottonpadlaw04_BurnFouled_1.calls x86_3 t126 A1 c1 l1 t147 _ ?side1 ?side2 A107.out gb108 ?sideB).mono ?_
                     (case sideB => first | ((with_reducible refine (blk_cell BK108.out 0).trans ?_); rfl) | ((with_reducible refine (blk_cell (blk_drewN BK108.out _) 0).trans ?_); rfl) | ((with_reducible refine (blk_cell (blk_drewN (blk_drewN BK108.out _) _) 0).trans ?_); rfl) | ((with_reducible refine (blk_cell (blk_drewN (blk_drewN (blk_drewN BK108.out _) _) _) 0).trans ?_); rfl) | ((with_reducible refine (blk_cell (blk_drewN (blk_drewN (blk_drewN (blk_drewN BK108.out _) _) _) _) 0).trans ?_); rfl) | ((with_reducible refine (cell_far (p := ⟨gb107, 1, none⟩) NB108_107.out _).trans ?_); (with_reducible refine (cell_far (p := ⟨gb107, 0, none⟩) NB108_107.out _).trans ?_); (with_reducible refine (blk_cell BK108.out 0).trans ?_); rfl) | ((with_reducible refine (cell_far (p := ⟨gb117, 1, none⟩) NB108_117.out _).trans ?_); (with_reducible refine (cell_far (p := ⟨gb117, 0, none⟩) NB108_117.out _).trans ?_); (with_reducible refine (blk_cell BK108.out 0).trans ?_); rfl) | ((with_reducible refine (cell_far (p := ⟨gb121, 1, none⟩) NB108_121.out _).trans ?_); (with_reducible refine (cell_far (p := ⟨gb121, 0, none⟩) NB108_121.out _).trans ?_); (with_reducible refine (blk_cell BK108.out 0).trans ?_); rfl) | ((with_reducible refine (cell_far (p := ⟨gb130, 1, none⟩) NB108_130.out _).trans ?_); (with_reducible refine (cell_far (p := ⟨gb130, 0, none⟩) NB108_130.out _).trans ?_); (with_reducible refine (blk_cell BK108.out 0).trans ?_); rfl) | ((with_reducible refine (cell_far (p := ⟨gb134, 1, none⟩) NB108_134.out _).trans ?_); (with_reducible refine (cell_far (p := ⟨gb134, 0, none⟩) NB108_134.out _).trans ?_); (with_reducible refine (blk_cell BK108.out 0).trans ?_); rfl))
                     (case side1 => exact Kd.C_below HR1.out (by repeat (first | (with_reducible first | exact HB.out | apply below_alloc | apply pw_below_drewN | apply below_drew1 | refine below_set ?_ GE107.out | refine below_set ?_ GE108.out | refine below_set ?_ GE117.out | refine below_set ?_ GE130.out | refine below_set ?_ GE134.out) | exact HB.out)))
                     (case side2 => exact HC1.out)
                     rintro e w' ⟨rfl, ⟨nd, rfl⟩⟩
                     go_wp2
                     go_roundg kj102
                     case measure => have := HJ6.out; have := HK2.out; have := HK3.out; have := HJ60.out; have := HJ102.out; omega
                     case rel => exact ⟨(t126), (wrap64 (x21_3 + t147)), (wrap64 (x86_3 + 1)), (t145), (t146), (by first | rfl | (simp; done) | (simp [*]; done)), (by first | rfl | (simp; done) | (simp [*]; done)), (by first | rfl | (simp; done) | (simp [*]; done)), H', ⟨by have := HJ6.out; have := HK2.out; have := HK3.out; have := HJ60.out; have := HJ102.out; omega⟩, ⟨by (with_reducible repeat (first | apply Kd.R_alloc | apply Kd.R_drewN | apply Kd.R_drew)); exact Kd.R_mono (Kd.R_far (p := ⟨gb117, 1, none⟩) (Kd.R_far (p := ⟨gb117, 0, none⟩) (Kd.R_types HO_13.out BK117.out (by decide)) (fun _ hk => hk.2) (.int .i64 t145)) (fun _ hk => hk.2) (.int .i64 t146)) (fun _ hk => trivial)⟩, ⟨by (with_reducible repeat (first | refine blk_drewN ?_ _ | refine blk_drew ?_ | refine blk_alloc ?_ _)); refine blk_far ?_ NB107_117.out _; (with_reducible repeat (first | refine blk_drewN ?_ _ | refine blk_drew ?_ | refine blk_alloc ?_ _)); refine blk_far ?_ NB107_117.out _; (with_reducible repeat (first | refine blk_drewN ?_ _ | refine blk_drew ?_ | refine blk_alloc ?_ _)); exact BK107.out⟩, ⟨by (with_reducible repeat (first | refine blk_drewN ?_ _ | refine blk_drew ?_ | refine blk_alloc ?_ _)); refine blk_far ?_ NB108_117.out _; (with_reducible repeat (first | refine blk_drewN ?_ _ | refine blk_drew ?_ | refine blk_alloc ?_ _)); refine blk_far ?_ NB108_117.out _; (with_reducible repeat (first | refine blk_drewN ?_ _ | refine blk_drew ?_ | refine blk_alloc ?_ _)); exact BK108.out⟩, ⟨by (with_reducible repeat (first | refine blk_drewN ?_ _ | refine blk_drew ?_ | refine blk_alloc ?_ _)); refine blk_put (cs := #[.int .i64 t145, .int .i64 x118001_3]) ?_ 1 _ rfl; (with_reducible repeat (first | refine blk_drewN ?_ _ | refine blk_drew ?_ | refine blk_alloc ?_ _)); refine blk_put (cs := #[.int .i64 x118000_3, .int .i64 x118001_3]) ?_ 0 _ rfl; (with_reducible repeat (first | refine blk_drewN ?_ _ | refine blk_drew ?_ | refine blk_alloc ?_ _)); exact BK117.out⟩, ⟨by repeat (first | (with_reducible first | exact HB.out | apply below_alloc | apply pw_below_drewN | apply below_drew1 | refine below_set ?_ GE107.out | refine below_set ?_ GE108.out | refine below_set ?_ GE117.out | refine below_set ?_ GE130.out | refine below_set ?_ GE134.out) | exact HB.out)⟩⟩
                    ·
                     replace c105 := Bool.eq_false_iff.mpr c105
                     subst c105
                     have H1 : (cottonpadlaw04_BurnFouled.l1 kj102 l2 t109 x13_2 ji44 ji45 t126 x21_3 (l1.length : Int) (wrap64 (x86_3 + 1)) a0_0 a0_1 l1 x118000_3 x118001_3) = some r := by rw [if_neg (show ¬ (false = true) by decide)] at H; exact H
                     clear H
                     have H := H1
                     clear H1
                     have H' := A_ H
                     clear H
                     go_wp2
                     go_roundg kj102
                     case measure => have := HJ6.out; have := HK2.out; have := HK3.out; have := HJ60.out; have := HJ102.out; omega
                     case rel => exact ⟨(t126), (x21_3), (wrap64 (x86_3 + 1)), (x118000_3), (x118001_3), (by first | rfl | (simp; done) | (simp [*]; done)), (by first | rfl | (simp; done) | (simp [*]; done)), (by first | rfl | (simp; done) | (simp [*]; done)), H', ⟨by have := HJ6.out; have := HK2.out; have := HK3.out; have := HJ60.out; have := HJ102.out; omega⟩, ⟨by (with_reducible repeat (first | apply Kd.R_alloc | apply Kd.R_drewN | apply Kd.R_drew)); exact HO_13.out⟩, ⟨by (with_reducible repeat (first | refine blk_drewN ?_ _ | refine blk_drew ?_ | refine blk_alloc ?_ _)); exact BK107.out⟩, ⟨by (with_reducible repeat (first | refine blk_drewN ?_ _ | refine blk_drew ?_ | refine blk_alloc ?_ _)); exact BK108.out⟩, ⟨by (with_reducible repeat (first | refine blk_drewN ?_ _ | refine blk_drew ?_ | refine blk_alloc ?_ _)); exact BK117.out⟩, ⟨by repeat (first | (with_reducible first | exact HB.out | apply below_alloc | apply pw_below_drewN | apply below_drew1 | refine below_set ?_ GE107.out | refine below_set ?_ GE108.out | refine below_set ?_ GE117.out | refine below_set ?_ GE130.out | refine below_set ?_ GE134.out) | exact HB.out)⟩⟩
              ·
               rw [if_neg c55] at H
               exact absurd H (by simp)
             ·
              rw [if_neg c54] at H
              exact absurd H (by simp)
            ·
             rw [if_neg c53] at H
             have c53b0 : decide (x86_3 < (l1.length : Int)) = false := decide_eq_false c53
             clear c53
             replace H := Option.bind_eq_some_iff.mp H
             obtain ⟨⟨t118, t119, t120⟩, A1190, H⟩ := H
             try dsimp only at H
             have A119 := A_ A1190
             clear A1190
             by_cases c120 : t109 = true
             ·
              subst c120
              have H1 : (if t120 = 0 then (if (t118 == x118000_3 && (t119 == x118001_3)) = true then (if x21_3 ≥ t118 then (some (decide (x21_3 ≤ t119))) else (none)) else (none)) else (none)) = some r := by rw [if_pos rfl] at H; exact H
              clear H
              have H := H1
              clear H1
              by_cases c121 : t120 = 0
              ·
               rw [if_pos c121] at H
               have c121b0 : (t120 == 0) = true := beq_iff_eq.mpr c121
               have c121b1 : (t120 != 0) = false := bne_eq_false_iff_eq.mpr c121
               clear c121
               by_cases c122 : (t118 == x118000_3 && (t119 == x118001_3)) = true
               ·
                rw [if_pos c122] at H
                have c122b0 : (t118 == x118000_3 && (t119 == x118001_3)) = true := c122
                (try (have c122b1 : decide (t118 = x118000_3 && (t119 == x118001_3)) = true := by simpa using c122))
                (try (have c122b2 : (t118 == x118000_3 && (t119 == x118001_3)) = true := by simpa using c122))
                clear c122
                by_cases c123 : x21_3 ≥ t118
                ·
                 rw [if_pos c123] at H
                 have c123b0 : decide (t118 ≤ x21_3) = true := decide_eq_true c123
                 clear c123
                 obtain rfl := Option.some.inj H
                 have hnb124 := NB107_108.out
                 have hnc124 := NB108_107.out
                 have hnb125 := NB107_117.out
                 have hnc125 := NB117_107.out
                 have hcz126_0 : wr.cell? ⟨gb107, 0, none⟩ = some (.int .i64 a0_0) := (blk_cell BK107.out 0).trans rfl
                 have hcz126_1 : wr.cell? ⟨gb107, 1, none⟩ = some (.int .i64 a0_1) := (blk_cell BK107.out 1).trans rfl
                 have hfz126_0 := blk_frozen BK107.out 0
                 have hfz126_1 := blk_frozen BK107.out 1
                 have hnb127 := NB108_117.out
                 have hnc127 := NB117_108.out
                 have hcz128_0 : wr.cell? ⟨gb108, 0, none⟩ = some (.slice A1 l1.length c1) := (blk_cell BK108.out 0).trans rfl
                 have hfz128_0 := blk_frozen BK108.out 0
                 go_wp2_with (first | ((with_reducible refine gate_callee (f := 29) rfl ?_); refine goesL_ (some 208) rfl rfl Tryd.func29 (by kernel_rfl) rfl #[.agg #[.int .i64 a0_0, .int .i64 a0_1], .slice A1 l1.length c1, .int .i64 ji44, .int .i64 ji45] rfl (by (try simp only [List.map_toArray, List.map_cons, List.map_nil]); first | done | (simp only [hji44, hji45]; rfl) | rfl | (simp only [List.length_drop, List.length_take]; rfl)) ?_; (with_reducible refine (burn_Smoke.calls k3 a0_0 a0_1 _ _ l1 ji44 ji45 t118 t119 t120 _ ?side1 ?side2 A119.out).mono ?_); (case side1 => repeat (first | exact (Kd.C_below HR1.out HB.out) | (with_reducible refine Kd.C_alloc ?_ _) | (with_reducible refine Kd.C_drewN ?_ _) | (with_reducible refine Kd.C_drew ?_))); (case side2 => exact HC1.out); rintro e w129 ⟨rfl, hb⟩; refine ⟨_, rfl, ?_⟩; have n0_ := A_ (Kd.R_below (kr_ HO_13.out) hb); have n1_ := bb_ BK107.out hb; have n2_ := bb_ BK108.out hb; have n3_ := bb_ BK117.out hb; have n4_ := A_ (below_step (by repeat (first | (with_reducible first | exact HB.out | apply below_alloc | apply pw_below_drewN | apply below_drew1 | refine below_set ?_ GE107.out | refine below_set ?_ GE108.out | refine below_set ?_ GE117.out) | exact HB.out)) hb); clear HO_13; clear BK107; clear BK108; clear BK117; clear HB; have HO_13 := n0_; have BK107 := n1_; have BK108 := n2_; have BK117 := n3_; have HB := n4_; clear n0_ n1_ n2_ n3_ n4_; (try clear hb); (try clear hb2); (try clear hk); (try clear hi)) | ((with_reducible refine gate_dst (N := 27) rfl ?_); refine box_event ?hg (N := 27) ?hd (cs := #[.int .i64 0, .int .i64 0]) (t := 23) ?hr ?_; (case hd => rfl); (case hg => rfl); (case hr => first | (go_simp; done) | (go_simp; rfl)); intro gb121 hg w130 hbox hb; have n0_ := A_ (Kd.R_below (kr_ HO_13.out) hb); have n1_ := bb_ BK107.out hb; have n2_ := bb_ BK108.out hb; have n3_ := bb_ BK117.out hb; have n4_ := A_ (below_step (by repeat (first | (with_reducible first | exact HB.out | apply below_alloc | apply pw_below_drewN | apply below_drew1 | refine below_set ?_ GE107.out | refine below_set ?_ GE108.out | refine below_set ?_ GE117.out) | exact HB.out)) hb); have n5_ := A_ (hbox); have n6_ := A_ ((by rw [hg]; exact (below_size (by repeat (first | (with_reducible first | exact HB.out | apply below_alloc | apply pw_below_drewN | apply below_drew1 | refine below_set ?_ GE107.out | refine below_set ?_ GE108.out | refine below_set ?_ GE117.out) | exact HB.out))) : w.heap.size ≤ gb121)); have n7_ := A_ ((by rw [hg]; exact (below_size (by repeat (first | (with_reducible first | exact HB.out | apply below_alloc | apply pw_below_drewN | apply below_drew1 | refine below_set ?_ GE107.out | refine below_set ?_ GE108.out | refine below_set ?_ GE117.out) | exact HB.out))) : w.heap.size ≤ gb121)); have n8_ := A_ ((by rw [hg]; exact Nat.ne_of_lt (blk_lt (g := gb107) (o := .cells #[.int .i64 a0_0, .int .i64 a0_1] 48 (0, 0)) (bk_ BK107.out)) : gb107 ≠ gb121)); have n9_ := A_ ((by rw [hg]; exact Nat.ne_of_gt (blk_lt (g := gb107) (o := .cells #[.int .i64 a0_0, .int .i64 a0_1] 48 (0, 0)) (bk_ BK107.out)) : gb121 ≠ gb107)); have n10_ := A_ ((by rw [hg]; exact Nat.ne_of_lt (blk_lt (g := gb108) (o := .cells #[.slice A1 l1.length c1] 26 (0, 0)) (bk_ BK108.out)) : gb108 ≠ gb121)); have n11_ := A_ ((by rw [hg]; exact Nat.ne_of_gt (blk_lt (g := gb108) (o := .cells #[.slice A1 l1.length c1] 26 (0, 0)) (bk_ BK108.out)) : gb121 ≠ gb108)); have n12_ := A_ ((by rw [hg]; exact Nat.ne_of_lt (blk_lt (g := gb117) (o := .cells #[.int .i64 x118000_3, .int .i64 x118001_3] 23 (0, 0)) (bk_ BK117.out)) : gb117 ≠ gb121)); have n13_ := A_ ((by rw [hg]; exact Nat.ne_of_gt (blk_lt (g := gb117) (o := .cells #[.int .i64 x118000_3, .int .i64 x118001_3] 23 (0, 0)) (bk_ BK117.out)) : gb121 ≠ gb117)); clear HO_13; clear BK107; clear BK108; clear BK117; clear HB; have HO_13 := n0_; have BK107 := n1_; have BK108 := n2_; have BK117 := n3_; have HB := n4_; have BK121 := n5_; have GW121 := n6_; have GE121 := n7_; have NB107_121 := n8_; have NB121_107 := n9_; have NB108_121 := n10_; have NB121_108 := n11_; have NB117_121 := n12_; have NB121_117 := n13_; clear n0_ n1_ n2_ n3_ n4_ n5_ n6_ n7_ n8_ n9_ n10_ n11_ n12_ n13_; clear hb hbox hg; have hnb131 := NB121_107.out; have hnc131 := NB107_121.out; have hnb132 := NB121_108.out; have hnc132 := NB108_121.out; have hnb133 := NB121_117.out; have hnc133 := NB117_121.out; have hcz134_0 : w130.cell? ⟨gb121, 0, none⟩ = some (.int .i64 0) := (blk_cell BK121.out 0).trans rfl; have hcz134_1 : w130.cell? ⟨gb121, 1, none⟩ = some (.int .i64 0) := (blk_cell BK121.out 1).trans rfl; have hfz134_0 := blk_frozen BK121.out 0; have hfz134_1 := blk_frozen BK121.out 1; have hcz135_0 : w130.cell? ⟨gb117, 0, none⟩ = some (.int .i64 x118000_3) := (blk_cell BK117.out 0).trans rfl; have hcz135_1 : w130.cell? ⟨gb117, 1, none⟩ = some (.int .i64 x118001_3) := (blk_cell BK117.out 1).trans rfl; have hfz135_0 := blk_frozen BK117.out 0; have hfz135_1 := blk_frozen BK117.out 1))
                 go_ret
                 exact ⟨by first | rfl | (simp [errW_none, errW_some] <;> rfl) | (simp only [← hji44, ← hji45]; first | rfl | (simp [errW_none, errW_some] <;> rfl)) | (simp [*, errW_none, errW_some] <;> rfl), by repeat (first | (with_reducible first | exact HB.out | apply below_alloc | apply pw_below_drewN | apply below_drew1 | refine below_set ?_ GE107.out | refine below_set ?_ GE108.out | refine below_set ?_ GE117.out | refine below_set ?_ GE121.out) | exact HB.out)⟩
                ·
                 rw [if_neg c123] at H
                 exact absurd H (by simp)
               ·
                rw [if_neg c122] at H
                exact absurd H (by simp)
              ·
               rw [if_neg c121] at H
               exact absurd H (by simp)
             ·
              replace c120 := Bool.eq_false_iff.mpr c120
              subst c120
              have H1 : (none) = some r := by rw [if_neg (show ¬ (false = true) by decide)] at H; exact H
              clear H
              have H := H1
              clear H1
              exact absurd H (by simp)
     ·
      rw [if_neg c27] at H
      exact absurd H (by simp)
    ·
     rw [if_neg c26] at H
     exact absurd H (by simp)

end Go.Proofs.YtfgclmbndgakgaaDoor.PF
