/- law04.BurnWider: the walk by SX. -/
import Derived.Test.YtaijhbliagjeaaaDoorPkLawBurnWider7
import Derived.Test.YtaijhbliagjeaaaDoorPkLawBurnWider4
import Derived.Test.YtaijhbliagjeaaaDoorPkLawBurnWider5
import Derived.Test.YtaijhbliagjeaaaDoorPkLawBurnWider8
namespace Go.Proofs.YtaijhbliagjeaaaDoor
open Go.RowKit Go.Proofs.YtaijhbliagjeaaaDoorW.PrintWords Go.Proofs.YtaijhbliagjeaaaDoor.PA Go.Proofs.YtaijhbliagjeaaaDoor.PR Go.Proofs.YtaijhbliagjeaaaDoor.Pure
set_option linter.unusedVariables false
set_option linter.unusedSimpArgs false
theorem choose_enters : ∀ args w, (callFunc 7 args).run Tryd.prog w = .ok (.enter 7 args) w := enters_of Tryd.func7 (by kernel_rfl) rfl
theorem span_enters : ∀ args w, (callFunc 6 args).run Tryd.prog w = .ok (.enter 6 args) w := enters_of Tryd.func6 (by kernel_rfl) rfl
theorem ready_enters : ∀ args w, (callFunc 5 args).run Tryd.prog w = .ok (.enter 5 args) w := enters_of Tryd.func5 (by kernel_rfl) rfl
theorem alive_enters : ∀ args w, (callFunc 4 args).run Tryd.prog w = .ok (.enter 4 args) w := enters_of Tryd.func4 (by kernel_rfl) rfl
theorem seconds_enters : ∀ args w, (callFunc 8 args).run Tryd.prog w = .ok (.enter 8 args) w := enters_of Tryd.func8 (by kernel_rfl) rfl
theorem burnFirst_enters : ∀ args w, (callFunc 9 args).run Tryd.prog w = .ok (.enter 9 args) w := enters_of Tryd.func9 (by kernel_rfl) rfl
theorem burnHeat_enters : ∀ args w, (callFunc 10 args).run Tryd.prog w = .ok (.enter 10 args) w := enters_of Tryd.func10 (by kernel_rfl) rfl
theorem burnSum_enters : ∀ args w, (callFunc 11 args).run Tryd.prog w = .ok (.enter 11 args) w := enters_of Tryd.func11 (by kernel_rfl) rfl
theorem eq00 {x : Int} : decide (x = x) = true := by simp
theorem neq00 {x : Int} : (!decide (x = x)) = false := by simp
set_option maxRecDepth 8192 in
set_option maxHeartbeats 64000000 in
theorem burnWider_law (b0 b1 f0 f1 j0 j1 g0 g1 dr : Int) (A C : Option Addr) (c c2 : Nat) (l by_ : List Int) (sec lv : Int) (w : World) (hr : Kd.C (Kd.int .i64) w A l.length l) (hc : l.length ≤ c) (hy : Kd.C (Kd.int .u32) w C by_.length by_) (hc2 : by_.length ≤ c2) (hU : U32 by_) (hsec : 0 ≤ sec ∧ sec ≤ 255) (hglob : GlobOK w) :
    Calls Tryd.prog 3 #[.agg #[.int .i64 b0, .int .i64 b1, .int .i64 f0, .int .i64 f1, .int .i64 j0, .int .i64 j1, .int .i64 g0, .int .i64 g1, .int .i64 dr], .slice A l.length c, .slice C by_.length c2, .int .u8 sec, .int .i64 lv] w fun e w' => e = .returned (.bool true) ∧ Below w.heap.size w w' := by
  have hrn := hr.2.1
  refine x_calls (X := XNone) Tryd.func3 rfl rfl rfl ?_
  with_reducible repeat refine xc_seq ?_
  with_reducible refine xc_region ?_
  refine xo_box rfl rfl rfl rfl (fun b5 => ?_)
  refine xo_asg rfl rfl rfl ?_
  with_reducible refine xo_nil ?_
  with_reducible repeat (first | refine xq_then ?_ | refine xq_blockN ?_ | refine xq_scopeN ?_)
  with_reducible repeat refine xc_seq ?_
  with_reducible refine xc_region ?_
  refine xo_callB (fs := []) (cs := []) rfl rfl rfl alive_enters rfl (fun w1 hw1 => cottonpadlaw04_alive.calls 1001 true w1 (hglob.below hw1.kx.below) (alive_more 1)) ?_
  refine xo_asg rfl rfl rfl ?_
  with_reducible refine xo_nil ?_
  with_reducible repeat (first | refine xq_then ?_ | refine xq_blockN ?_ | refine xq_scopeN ?_)
  with_reducible refine xc_seq ?_
  refine xc_cut (γ := Bool) (fun g => g = false → (HoodOK b0 b1 f0 f1 j0 j1 g0 g1 dr ∧ ReadsOK l) ∧ 1 ≤ lv) (fun g => [(1, .slice A l.length c), (2, .slice C by_.length c2), (3, .int .u8 sec), (4, .int .i64 lv), (5, .pointer (some ⟨b5, 0, none⟩)), (11, .bool true), (41, .bool g)]) (fun _ => [(b5, true, cel [.int .i64 b0, .int .i64 b1, .int .i64 f0, .int .i64 f1, .int .i64 j0, .int .i64 j1, .int .i64 g0, .int .i64 g1, .int .i64 dr] 25)]) ?_ (fun g hg => ?_)
  · cases hok : decide (HoodOK b0 b1 f0 f1 j0 j1 g0 g1 dr ∧ ReadsOK l)
    · with_reducible repeat refine xc_seq ?_
      with_reducible refine xc_region ?_
      refine xo_loadN T_ rfl rfl rfl (by repeat (first | exact List.Mem.head _ | apply List.Mem.tail | apply List.mem_append_right)) rfl rfl ?_
      refine xo_mv rfl rfl rfl ?_
      refine xo_callB (v := .bool false) (fs := []) (cs := []) rfl rfl rfl ready_enters rfl (fun w1 hw1 => cottonpadlaw04_ready.calls 1001 _ _ _ _ _ _ _ _ _ _ _ _ _ w1 (Kd.C_below hr hw1.kx.below) hc (by rw [ready_eq _ _ _ _ _ _ _ _ _ _ _ (by omega), hok])) ?_
      refine xo_notOp rfl rfl rfl ?_
      refine xo_mv rfl rfl rfl ?_
      first
        | refine xo_not rfl rfl ?_
        | (refine xo_mv rfl rfl rfl ?_)
      first
        | refine xo_not rfl rfl ?_
        | (refine xo_lss rfl rfl rfl rfl ?_)
      first | refine xo_pickT rfl rfl rfl rfl ?_ | refine xo_pickF rfl rfl rfl rfl ?_
      refine xo_mv rfl rfl rfl ?_
      first
        | refine xo_not rfl rfl ?_
        | (refine xo_mv rfl rfl rfl ?_)
      first
        | refine xo_not rfl rfl ?_
        | (refine xo_notOp rfl rfl rfl ?_)
      first | refine xo_pickT rfl rfl rfl rfl ?_ | refine xo_pickF rfl rfl rfl rfl ?_
      with_reducible refine xo_nil ?_
      with_reducible repeat (first | refine xq_then ?_ | refine xq_blockN ?_ | refine xq_scopeN ?_)
      exact xq_meet _ _ _ true (fun h => by cases h) ⟨rfl, rfl, rfl, rfl, rfl, rfl, rfl, trivial⟩ (by repeat (first | exact List.Sublist.refl _ | apply List.Sublist.cons_cons | apply List.Sublist.cons | exact List.nil_sublist _))
    cases h1 : decide (lv < 1)
    rotate_left
    · with_reducible repeat refine xc_seq ?_
      with_reducible refine xc_region ?_
      refine xo_loadN T_ rfl rfl rfl (by repeat (first | exact List.Mem.head _ | apply List.Mem.tail | apply List.mem_append_right)) rfl rfl ?_
      refine xo_mv rfl rfl rfl ?_
      refine xo_callB (v := .bool true) (fs := []) (cs := []) rfl rfl rfl ready_enters rfl (fun w1 hw1 => cottonpadlaw04_ready.calls 1001 _ _ _ _ _ _ _ _ _ _ _ _ _ w1 (Kd.C_below hr hw1.kx.below) hc (by rw [ready_eq _ _ _ _ _ _ _ _ _ _ _ (by omega), hok])) ?_
      refine xo_notOp rfl rfl rfl ?_
      refine xo_mv rfl rfl rfl ?_
      first
        | refine xo_not rfl rfl ?_
        | (refine xo_mv rfl rfl rfl ?_)
      first
        | refine xo_not rfl rfl ?_
        | (refine xo_lss rfl rfl rfl rfl ?_)
      refine xo_as (i := 36) rfl (congrArg Value.bool h1) ?_
      first | refine xo_pickT rfl rfl rfl rfl ?_ | refine xo_pickF rfl rfl rfl rfl ?_
      refine xo_mv rfl rfl rfl ?_
      first
        | refine xo_not rfl rfl ?_
        | (refine xo_mv rfl rfl rfl ?_)
      first
        | refine xo_not rfl rfl ?_
        | (refine xo_notOp rfl rfl rfl ?_)
      first | refine xo_pickT rfl rfl rfl rfl ?_ | refine xo_pickF rfl rfl rfl rfl ?_
      with_reducible refine xo_nil ?_
      with_reducible repeat (first | refine xq_then ?_ | refine xq_blockN ?_ | refine xq_scopeN ?_)
      exact xq_meet _ _ _ true (fun h => by cases h) ⟨rfl, rfl, rfl, rfl, rfl, rfl, rfl, trivial⟩ (by repeat (first | exact List.Sublist.refl _ | apply List.Sublist.cons_cons | apply List.Sublist.cons | exact List.nil_sublist _))
    · with_reducible repeat refine xc_seq ?_
      with_reducible refine xc_region ?_
      refine xo_loadN T_ rfl rfl rfl (by repeat (first | exact List.Mem.head _ | apply List.Mem.tail | apply List.mem_append_right)) rfl rfl ?_
      refine xo_mv rfl rfl rfl ?_
      refine xo_callB (v := .bool true) (fs := []) (cs := []) rfl rfl rfl ready_enters rfl (fun w1 hw1 => cottonpadlaw04_ready.calls 1001 _ _ _ _ _ _ _ _ _ _ _ _ _ w1 (Kd.C_below hr hw1.kx.below) hc (by rw [ready_eq _ _ _ _ _ _ _ _ _ _ _ (by omega), hok])) ?_
      refine xo_notOp rfl rfl rfl ?_
      refine xo_mv rfl rfl rfl ?_
      first
        | refine xo_not rfl rfl ?_
        | (refine xo_mv rfl rfl rfl ?_)
      first
        | refine xo_not rfl rfl ?_
        | (refine xo_lss rfl rfl rfl rfl ?_)
      refine xo_as (i := 36) rfl (congrArg Value.bool h1) ?_
      first | refine xo_pickT rfl rfl rfl rfl ?_ | refine xo_pickF rfl rfl rfl rfl ?_
      refine xo_mv rfl rfl rfl ?_
      first
        | refine xo_not rfl rfl ?_
        | (refine xo_mv rfl rfl rfl ?_)
      first
        | refine xo_not rfl rfl ?_
        | (refine xo_notOp rfl rfl rfl ?_)
      first | refine xo_pickT rfl rfl rfl rfl ?_ | refine xo_pickF rfl rfl rfl rfl ?_
      with_reducible refine xo_nil ?_
      with_reducible repeat (first | refine xq_then ?_ | refine xq_blockN ?_ | refine xq_scopeN ?_)
      have h1' := of_decide_eq_false h1
      exact xq_meet _ _ _ false (fun _ => ⟨of_decide_eq_true hok, by omega⟩) ⟨rfl, rfl, rfl, rfl, rfl, rfl, rfl, trivial⟩ (by repeat (first | exact List.Sublist.refl _ | apply List.Sublist.cons_cons | apply List.Sublist.cons | exact List.nil_sublist _))
  with_reducible repeat refine xc_seq ?_
  refine xc_cond rfl (fun hg1 => ?_) (fun hg1 => ?_)
  · with_reducible repeat refine xc_seq ?_
    with_reducible refine xc_region ?_
    refine xo_mv rfl rfl rfl ?_
    refine xo_asg rfl rfl rfl ?_
    with_reducible refine xo_nil ?_
    with_reducible repeat (first | refine xq_then ?_ | refine xq_blockN ?_ | refine xq_scopeN ?_)
    with_reducible repeat refine xc_seq ?_
    with_reducible refine xc_ret ?_
    with_reducible repeat (first | refine xq_thenR ?_ | refine xq_blockR ?_ | refine xq_scopeR ?_)
    exact xq_ret1 rfl rfl fun w' hw => ⟨rfl, hw.kx.below⟩
  obtain ⟨⟨hH, hl⟩, hlv⟩ := hg hg1
  clear hg
  obtain ⟨⟨kb0, kb1, kb2⟩, ⟨kf0, kf1, kf2⟩, ⟨kj0, kj1, kj2⟩, ⟨kg0, kg1, kg2⟩, kd0, kd1⟩ := id hH
  have hl0 := hl.1
  obtain ⟨c0, e0, c00, c01⟩ := choose_ok hU 0 (by omega)
  obtain ⟨c1, e1, c10, c11⟩ := choose_ok hU 1 (by omega)
  obtain ⟨c2_, e2, c20, c21⟩ := choose_ok hU 2 (by omega)
  obtain ⟨c3, e3, c30, c31⟩ := choose_ok hU 3 (by omega)
  obtain ⟨c4, e4, c40, c41⟩ := choose_ok hU 4 (by omega)
  obtain ⟨c5, e5, c50, c51⟩ := choose_ok hU 5 (by omega)
  obtain ⟨c6, e6, c60, c61⟩ := choose_ok hU 6 (by omega)
  obtain ⟨c7, e7, c70, c71⟩ := choose_ok hU 7 (by omega)
  with_reducible refine xc_skip ?_
  with_reducible repeat (first | refine xq_then ?_ | refine xq_blockN ?_ | refine xq_scopeN ?_)
  with_reducible repeat refine xc_seq ?_
  with_reducible refine xc_region ?_
  refine xo_loadN T_ rfl rfl rfl (by repeat (first | exact List.Mem.head _ | apply List.Mem.tail | apply List.mem_append_right)) rfl rfl ?_
  refine xo_alloc T_ rfl rfl rfl rfl (fun b12 => ?_)
  refine xo_store T_ rfl rfl rfl rfl (by repeat (first | exact List.Mem.head _ | apply List.Mem.tail | apply List.mem_append_right)) rfl rfl rfl rfl (by repeat (first | exact Upd.head | apply Upd.tail | apply Upd.app)) rfl ?_
  with_reducible refine xo_nil ?_
  with_reducible repeat (first | refine xq_then ?_ | refine xq_blockN ?_ | refine xq_scopeN ?_)
  with_reducible repeat refine xc_seq ?_
  refine xc_slots [(1, .slice A l.length c), (2, .slice C by_.length c2), (3, .int .u8 sec), (4, .int .i64 lv), (5, .pointer (some ⟨b5, 0, none⟩)), (11, .bool true), (12, .pointer (some ⟨b12, 0, none⟩))] ⟨rfl, rfl, rfl, rfl, rfl, rfl, rfl, trivial⟩ ?_
  have m0 := Int.emod_nonneg c0 (show b0 + 1 ≠ 0 by omega)
  have n0 := Int.emod_lt_of_pos c0 (show 0 < b0 + 1 by omega)
  have m1 := Int.emod_nonneg c1 (show 1000000 - b1 + 1 ≠ 0 by omega)
  have n1 := Int.emod_lt_of_pos c1 (show 0 < 1000000 - b1 + 1 by omega)
  with_reducible repeat refine xc_seq ?_
  apply xc_drawE (fun g => [(25, undef)]) (fun (η0 : Hp) g => match g with | [] => (η0) | a0 :: _ => ([(b12, true, cel [.int .i64 (b0 - c0 % (b0 + 1)), .int .i64 (b1 + c1 % (1000000 - b1 + 1)), .int .i64 f0, .int .i64 f1, .int .i64 j0, .int .i64 j1, .int .i64 g0, .int .i64 g1, .int .i64 dr] 25), (b5, true, cel [.int .i64 b0, .int .i64 b1, .int .i64 f0, .int .i64 f1, .int .i64 j0, .int .i64 j1, .int .i64 g0, .int .i64 g1, .int .i64 dr] 25)])) (fun _ => True) [0, 0, 0, 0, 0, 0, 0, 0, 0, 0, 0, 0, 0, 0, 0, 0, 0, 0, 0, 0, 0, 0, 0, 0, 0, 1] [25] [[24, 23, 23, 0, 1, 2, 3, 4, 5, 6, 7, 8, 9, 10, 11, 12, 13, 14, 15, 16, 17, 18, 19, 20, 21, 22, 23]] (by trivial)
  apply SameLen.cons
  apply SameLen.cons
  apply SameLen.cons
  apply SameLen.cons
  apply SameLen.cons
  apply SameLen.cons
  apply SameLen.cons
  apply SameLen.cons
  apply SameLen.cons
  apply SameLen.cons
  apply SameLen.cons
  apply SameLen.cons
  apply SameLen.cons
  apply SameLen.cons
  apply SameLen.cons
  apply SameLen.cons
  apply SameLen.cons
  apply SameLen.cons
  apply SameLen.cons
  apply SameLen.cons
  apply SameLen.cons
  apply SameLen.cons
  apply SameLen.cons
  apply SameLen.cons
  apply SameLen.cons
  apply SameLen.cons (c := undef)
  exact SameLen.nil
  rotate_left 25
  case hH0 => rfl
  case hmix => exact T_.mixed
  case hbind => rfl
  case hdeps => rfl
  case hdist => rfl
  case hfresh => rfl
  case hE => rfl
  case hEn => decide
  · refine DrawE.pure 0 0 rfl (.inr (by decide)) (fun L g hg hd => Nat.zero_le _) (fun g hlo hhi hF τ => ?_) ?_
    · rcases g with _ | ⟨a0, _ | ⟨a1, g⟩⟩
      all_goals first
        | (exfalso; simp only [List.length_cons, List.length_nil] at hlo hhi; omega)
        | (refine ⟨_, rfl, ?_⟩
           refine xo_fa T_ rfl rfl rfl rfl rfl ?_
           exact xo_fin rfl)
    refine DrawE.pure 0 0 rfl (.inr (by decide)) (fun L g hg hd => Nat.zero_le _) (fun g hlo hhi hF τ => ?_) ?_
    · rcases g with _ | ⟨a0, _ | ⟨a1, g⟩⟩
      all_goals first
        | (exfalso; simp only [List.length_cons, List.length_nil] at hlo hhi; omega)
        | (refine ⟨_, rfl, ?_⟩
           refine xo_fa T_ rfl rfl rfl rfl rfl ?_
           exact xo_fin rfl)
    refine DrawE.pure 0 0 rfl (.inr (by decide)) (fun L g hg hd => Nat.zero_le _) (fun g hlo hhi hF τ => ?_) ?_
    · rcases g with _ | ⟨a0, _ | ⟨a1, g⟩⟩
      all_goals first
        | (exfalso; simp only [List.length_cons, List.length_nil] at hlo hhi; omega)
        | (refine ⟨_, rfl, ?_⟩
           refine xo_load0 T_ rfl rfl rfl (by repeat (first | exact List.Mem.head _ | apply List.Mem.tail | apply List.mem_append_right)) rfl rfl ?_
           exact xo_fin rfl)
    refine DrawE.pure 0 0 rfl (.inr (by decide)) (fun L g hg hd => Nat.zero_le _) (fun g hlo hhi hF τ => ?_) ?_
    · rcases g with _ | ⟨a0, _ | ⟨a1, g⟩⟩
      all_goals first
        | (exfalso; simp only [List.length_cons, List.length_nil] at hlo hhi; omega)
        | (refine ⟨_, rfl, ?_⟩
           refine xo_mv rfl rfl rfl ?_
           exact xo_fin rfl)
    refine DrawE.pure 0 0 rfl (.inr (by decide)) (fun L g hg hd => Nat.zero_le _) (fun g hlo hhi hF τ => ?_) ?_
    · rcases g with _ | ⟨a0, _ | ⟨a1, g⟩⟩
      all_goals first
        | (exfalso; simp only [List.length_cons, List.length_nil] at hlo hhi; omega)
        | (refine ⟨_, rfl, ?_⟩
           refine xo_callB (fs := []) (cs := []) rfl rfl rfl choose_enters rfl (fun w1 hw1 => (cottonpadlaw04_choose.calls C c2 by_ 0 c0 w1 (Kd.C_below hy hw1.kx.below) hc2 e0).mono fun e w' q => ⟨q.1, q.2.below⟩) ?_
           exact xo_fin rfl)
    refine DrawE.pure 0 0 rfl (.inr (by decide)) (fun L g hg hd => Nat.zero_le _) (fun g hlo hhi hF τ => ?_) ?_
    · rcases g with _ | ⟨a0, _ | ⟨a1, g⟩⟩
      all_goals first
        | (exfalso; simp only [List.length_cons, List.length_nil] at hlo hhi; omega)
        | (refine ⟨_, rfl, ?_⟩
           refine xo_fa T_ rfl rfl rfl rfl rfl ?_
           exact xo_fin rfl)
    refine DrawE.pure 0 0 rfl (.inr (by decide)) (fun L g hg hd => Nat.zero_le _) (fun g hlo hhi hF τ => ?_) ?_
    · rcases g with _ | ⟨a0, _ | ⟨a1, g⟩⟩
      all_goals first
        | (exfalso; simp only [List.length_cons, List.length_nil] at hlo hhi; omega)
        | (refine ⟨_, rfl, ?_⟩
           refine xo_fa T_ rfl rfl rfl rfl rfl ?_
           exact xo_fin rfl)
    refine DrawE.pure 0 0 rfl (.inr (by decide)) (fun L g hg hd => Nat.zero_le _) (fun g hlo hhi hF τ => ?_) ?_
    · rcases g with _ | ⟨a0, _ | ⟨a1, g⟩⟩
      all_goals first
        | (exfalso; simp only [List.length_cons, List.length_nil] at hlo hhi; omega)
        | (refine ⟨_, rfl, ?_⟩
           refine xo_load0 T_ rfl rfl rfl (by repeat (first | exact List.Mem.head _ | apply List.Mem.tail | apply List.mem_append_right)) rfl rfl ?_
           exact xo_fin rfl)
    refine DrawE.pure 0 0 rfl (.inr (by decide)) (fun L g hg hd => Nat.zero_le _) (fun g hlo hhi hF τ => ?_) ?_
    · rcases g with _ | ⟨a0, _ | ⟨a1, g⟩⟩
      all_goals first
        | (exfalso; simp only [List.length_cons, List.length_nil] at hlo hhi; omega)
        | (refine ⟨_, rfl, ?_⟩
           refine xo_add rfl rfl rfl (by omega) rfl ?_
           exact xo_fin rfl)
    refine DrawE.pure 0 0 rfl (.inr (by decide)) (fun L g hg hd => Nat.zero_le _) (fun g hlo hhi hF τ => ?_) ?_
    · rcases g with _ | ⟨a0, _ | ⟨a1, g⟩⟩
      all_goals first
        | (exfalso; simp only [List.length_cons, List.length_nil] at hlo hhi; omega)
        | (refine ⟨_, rfl, ?_⟩
           refine xo_rem rfl rfl rfl (by omega) (by omega) rfl ?_
           exact xo_fin rfl)
    refine DrawE.pure 0 0 rfl (.inr (by decide)) (fun L g hg hd => Nat.zero_le _) (fun g hlo hhi hF τ => ?_) ?_
    · rcases g with _ | ⟨a0, _ | ⟨a1, g⟩⟩
      all_goals first
        | (exfalso; simp only [List.length_cons, List.length_nil] at hlo hhi; omega)
        | (refine ⟨_, rfl, ?_⟩
           refine xo_sub rfl rfl rfl (by omega) rfl ?_
           exact xo_fin rfl)
    refine DrawE.pure 0 0 rfl (.inr (by decide)) (fun L g hg hd => Nat.zero_le _) (fun g hlo hhi hF τ => ?_) ?_
    · rcases g with _ | ⟨a0, _ | ⟨a1, g⟩⟩
      all_goals first
        | (exfalso; simp only [List.length_cons, List.length_nil] at hlo hhi; omega)
        | (refine ⟨_, rfl, ?_⟩
           refine xo_fa T_ rfl rfl rfl rfl rfl ?_
           exact xo_fin rfl)
    refine DrawE.pure 0 0 rfl (.inr (by decide)) (fun L g hg hd => Nat.zero_le _) (fun g hlo hhi hF τ => ?_) ?_
    · rcases g with _ | ⟨a0, _ | ⟨a1, g⟩⟩
      all_goals first
        | (exfalso; simp only [List.length_cons, List.length_nil] at hlo hhi; omega)
        | (refine ⟨_, rfl, ?_⟩
           refine xo_fa T_ rfl rfl rfl rfl rfl ?_
           exact xo_fin rfl)
    refine DrawE.pure 0 0 rfl (.inr (by decide)) (fun L g hg hd => Nat.zero_le _) (fun g hlo hhi hF τ => ?_) ?_
    · rcases g with _ | ⟨a0, _ | ⟨a1, g⟩⟩
      all_goals first
        | (exfalso; simp only [List.length_cons, List.length_nil] at hlo hhi; omega)
        | (refine ⟨_, rfl, ?_⟩
           refine xo_load0 T_ rfl rfl rfl (by repeat (first | exact List.Mem.head _ | apply List.Mem.tail | apply List.mem_append_right)) rfl rfl ?_
           exact xo_fin rfl)
    refine DrawE.pure 0 0 rfl (.inr (by decide)) (fun L g hg hd => Nat.zero_le _) (fun g hlo hhi hF τ => ?_) ?_
    · rcases g with _ | ⟨a0, _ | ⟨a1, g⟩⟩
      all_goals first
        | (exfalso; simp only [List.length_cons, List.length_nil] at hlo hhi; omega)
        | (refine ⟨_, rfl, ?_⟩
           refine xo_mv rfl rfl rfl ?_
           exact xo_fin rfl)
    refine DrawE.pure 0 0 rfl (.inr (by decide)) (fun L g hg hd => Nat.zero_le _) (fun g hlo hhi hF τ => ?_) ?_
    · rcases g with _ | ⟨a0, _ | ⟨a1, g⟩⟩
      all_goals first
        | (exfalso; simp only [List.length_cons, List.length_nil] at hlo hhi; omega)
        | (refine ⟨_, rfl, ?_⟩
           refine xo_callB (fs := []) (cs := []) rfl rfl rfl choose_enters rfl (fun w1 hw1 => (cottonpadlaw04_choose.calls C c2 by_ 1 c1 w1 (Kd.C_below hy hw1.kx.below) hc2 e1).mono fun e w' q => ⟨q.1, q.2.below⟩) ?_
           exact xo_fin rfl)
    refine DrawE.pure 0 0 rfl (.inr (by decide)) (fun L g hg hd => Nat.zero_le _) (fun g hlo hhi hF τ => ?_) ?_
    · rcases g with _ | ⟨a0, _ | ⟨a1, g⟩⟩
      all_goals first
        | (exfalso; simp only [List.length_cons, List.length_nil] at hlo hhi; omega)
        | (refine ⟨_, rfl, ?_⟩
           refine xo_fa T_ rfl rfl rfl rfl rfl ?_
           exact xo_fin rfl)
    refine DrawE.pure 0 0 rfl (.inr (by decide)) (fun L g hg hd => Nat.zero_le _) (fun g hlo hhi hF τ => ?_) ?_
    · rcases g with _ | ⟨a0, _ | ⟨a1, g⟩⟩
      all_goals first
        | (exfalso; simp only [List.length_cons, List.length_nil] at hlo hhi; omega)
        | (refine ⟨_, rfl, ?_⟩
           refine xo_fa T_ rfl rfl rfl rfl rfl ?_
           exact xo_fin rfl)
    refine DrawE.pure 0 0 rfl (.inr (by decide)) (fun L g hg hd => Nat.zero_le _) (fun g hlo hhi hF τ => ?_) ?_
    · rcases g with _ | ⟨a0, _ | ⟨a1, g⟩⟩
      all_goals first
        | (exfalso; simp only [List.length_cons, List.length_nil] at hlo hhi; omega)
        | (refine ⟨_, rfl, ?_⟩
           refine xo_load0 T_ rfl rfl rfl (by repeat (first | exact List.Mem.head _ | apply List.Mem.tail | apply List.mem_append_right)) rfl rfl ?_
           exact xo_fin rfl)
    refine DrawE.pure 0 0 rfl (.inr (by decide)) (fun L g hg hd => Nat.zero_le _) (fun g hlo hhi hF τ => ?_) ?_
    · rcases g with _ | ⟨a0, _ | ⟨a1, g⟩⟩
      all_goals first
        | (exfalso; simp only [List.length_cons, List.length_nil] at hlo hhi; omega)
        | (refine ⟨_, rfl, ?_⟩
           refine xo_sub rfl rfl rfl (by omega) rfl ?_
           exact xo_fin rfl)
    refine DrawE.pure 0 0 rfl (.inr (by decide)) (fun L g hg hd => Nat.zero_le _) (fun g hlo hhi hF τ => ?_) ?_
    · rcases g with _ | ⟨a0, _ | ⟨a1, g⟩⟩
      all_goals first
        | (exfalso; simp only [List.length_cons, List.length_nil] at hlo hhi; omega)
        | (refine ⟨_, rfl, ?_⟩
           refine xo_add rfl rfl rfl (by omega) rfl ?_
           exact xo_fin rfl)
    refine DrawE.pure 0 0 rfl (.inr (by decide)) (fun L g hg hd => Nat.zero_le _) (fun g hlo hhi hF τ => ?_) ?_
    · rcases g with _ | ⟨a0, _ | ⟨a1, g⟩⟩
      all_goals first
        | (exfalso; simp only [List.length_cons, List.length_nil] at hlo hhi; omega)
        | (refine ⟨_, rfl, ?_⟩
           refine xo_rem rfl rfl rfl (by omega) (by omega) rfl ?_
           exact xo_fin rfl)
    refine DrawE.pure 0 0 rfl (.inr (by decide)) (fun L g hg hd => Nat.zero_le _) (fun g hlo hhi hF τ => ?_) ?_
    · rcases g with _ | ⟨a0, _ | ⟨a1, g⟩⟩
      all_goals first
        | (exfalso; simp only [List.length_cons, List.length_nil] at hlo hhi; omega)
        | (refine ⟨_, rfl, ?_⟩
           refine xo_add rfl rfl rfl (by omega) rfl ?_
           exact xo_fin rfl)
    refine DrawE.pure 0 0 rfl (.inr (by decide)) (fun L g hg hd => Nat.zero_le _) (fun g hlo hhi hF τ => ?_) ?_
    · rcases g with _ | ⟨a0, _ | ⟨a1, g⟩⟩
      all_goals first
        | (exfalso; simp only [List.length_cons, List.length_nil] at hlo hhi; omega)
        | (refine ⟨_, rfl, ?_⟩
           refine xo_callB (fs := []) (cs := []) rfl rfl rfl span_enters rfl (fun w1 hw1 => cottonpadlaw04_span.calls (b0 - c0 % (b0 + 1)) (b1 + c1 % (1000000 - b1 + 1)) _ _ w1 rfl) ?_
           exact xo_fin rfl)
    refine DrawE.pure 0 0 rfl (.inr (by decide)) (fun L g hg hd => Nat.zero_le _) (fun g hlo hhi hF τ => ?_) ?_
    · rcases g with _ | ⟨a0, _ | ⟨a1, g⟩⟩
      all_goals first
        | (exfalso; simp only [List.length_cons, List.length_nil] at hlo hhi; omega)
        | (refine ⟨_, rfl, ?_⟩
           refine xo_fa T_ rfl rfl rfl rfl rfl ?_
           exact xo_fin rfl)
    refine DrawE.eff 0 rfl (by decide) rfl (fun j hj => hj) (fun j g a hj => ?_) (fun L g hg hd => Nat.zero_le _) (fun g hgl hF τ => ?_) ?_
    · rcases j with _ | _ | _ | _ | _ | _ | _ | _ | _ | _ | _ | _ | _ | _ | _ | _ | _ | _ | _ | _ | _ | _ | _ | _ | _ | _ | j
      all_goals first | rfl | (rcases g with _ | ⟨a0, _ | ⟨a1, g⟩⟩ <;> first | rfl | exact absurd hj (by decide) | exact absurd hj (by simp [List.getD]))
    · obtain rfl : g = [] := by
        rcases g with _ | ⟨a0, g⟩ <;> first | rfl | (exfalso; simp only [List.length_cons, List.length_nil] at hgl; omega)
      refine xo_store T_ rfl rfl rfl rfl (by repeat (first | exact List.Mem.head _ | apply List.Mem.tail | apply List.mem_append_right)) rfl rfl rfl rfl (by repeat (first | exact Upd.head | apply Upd.tail | apply Upd.app)) rfl ?_
      exact xo_finE ⟨0, 0, none⟩ rfl trivial
    exact DrawE.nil
  intro g hgl hF
  obtain ⟨a0, rfl⟩ : ∃ a0, g = [a0] := by
    rcases g with _ | ⟨a0, _ | ⟨a1, g⟩⟩ <;> first | exact ⟨_, rfl⟩ | (exfalso; simp only [List.length_cons, List.length_nil] at hgl; omega)
  with_reducible repeat (first | refine xq_then ?_ | refine xq_blockN ?_ | refine xq_scopeN ?_)
  with_reducible repeat refine xc_seq ?_
  refine xc_slots [(1, .slice A l.length c), (2, .slice C by_.length c2), (3, .int .u8 sec), (4, .int .i64 lv), (5, .pointer (some ⟨b5, 0, none⟩)), (11, .bool true), (12, .pointer (some ⟨b12, 0, none⟩))] ⟨rfl, rfl, rfl, rfl, rfl, rfl, rfl, trivial⟩ ?_
  clear hgl hF
  generalize c0 % (b0 + 1) = z0 at *
  generalize c1 % (1000000 - b1 + 1) = z1 at *
  obtain ⟨B0, hB0⟩ : ∃ x, x = b0 - z0 := ⟨_, rfl⟩
  obtain ⟨B1, hB1⟩ : ∃ x, x = b1 + z1 := ⟨_, rfl⟩
  rw [← hB0, ← hB1]
  have m2 := Int.emod_nonneg c2_ (show f0 + 1 ≠ 0 by omega)
  have n2 := Int.emod_lt_of_pos c2_ (show 0 < f0 + 1 by omega)
  have m3 := Int.emod_nonneg c3 (show 10000 - f1 + 1 ≠ 0 by omega)
  have n3 := Int.emod_lt_of_pos c3 (show 0 < 10000 - f1 + 1 by omega)
  with_reducible repeat refine xc_seq ?_
  apply xc_drawE (fun g => [(25, undef)]) (fun (η0 : Hp) g => match g with | [] => (η0) | a0 :: _ => ([(b12, true, cel [.int .i64 B0, .int .i64 B1, .int .i64 (f0 - c2_ % (f0 + 1)), .int .i64 (f1 + c3 % (10000 - f1 + 1)), .int .i64 j0, .int .i64 j1, .int .i64 g0, .int .i64 g1, .int .i64 dr] 25), (b5, true, cel [.int .i64 b0, .int .i64 b1, .int .i64 f0, .int .i64 f1, .int .i64 j0, .int .i64 j1, .int .i64 g0, .int .i64 g1, .int .i64 dr] 25)])) (fun _ => True) [0, 0, 0, 0, 0, 0, 0, 0, 0, 0, 0, 0, 0, 0, 0, 0, 0, 0, 0, 0, 0, 0, 0, 0, 0, 1] [25] [[24, 23, 23, 0, 1, 2, 3, 4, 5, 6, 7, 8, 9, 10, 11, 12, 13, 14, 15, 16, 17, 18, 19, 20, 21, 22, 23]] (by trivial)
  apply SameLen.cons
  apply SameLen.cons
  apply SameLen.cons
  apply SameLen.cons
  apply SameLen.cons
  apply SameLen.cons
  apply SameLen.cons
  apply SameLen.cons
  apply SameLen.cons
  apply SameLen.cons
  apply SameLen.cons
  apply SameLen.cons
  apply SameLen.cons
  apply SameLen.cons
  apply SameLen.cons
  apply SameLen.cons
  apply SameLen.cons
  apply SameLen.cons
  apply SameLen.cons
  apply SameLen.cons
  apply SameLen.cons
  apply SameLen.cons
  apply SameLen.cons
  apply SameLen.cons
  apply SameLen.cons
  apply SameLen.cons (c := undef)
  exact SameLen.nil
  rotate_left 25
  case hH0 => rfl
  case hmix => exact T_.mixed
  case hbind => rfl
  case hdeps => rfl
  case hdist => rfl
  case hfresh => rfl
  case hE => rfl
  case hEn => decide
  · refine DrawE.pure 0 0 rfl (.inr (by decide)) (fun L g hg hd => Nat.zero_le _) (fun g hlo hhi hF τ => ?_) ?_
    · rcases g with _ | ⟨a0, _ | ⟨a1, g⟩⟩
      all_goals first
        | (exfalso; simp only [List.length_cons, List.length_nil] at hlo hhi; omega)
        | (refine ⟨_, rfl, ?_⟩
           refine xo_fa T_ rfl rfl rfl rfl rfl ?_
           exact xo_fin rfl)
    refine DrawE.pure 0 0 rfl (.inr (by decide)) (fun L g hg hd => Nat.zero_le _) (fun g hlo hhi hF τ => ?_) ?_
    · rcases g with _ | ⟨a0, _ | ⟨a1, g⟩⟩
      all_goals first
        | (exfalso; simp only [List.length_cons, List.length_nil] at hlo hhi; omega)
        | (refine ⟨_, rfl, ?_⟩
           refine xo_fa T_ rfl rfl rfl rfl rfl ?_
           exact xo_fin rfl)
    refine DrawE.pure 0 0 rfl (.inr (by decide)) (fun L g hg hd => Nat.zero_le _) (fun g hlo hhi hF τ => ?_) ?_
    · rcases g with _ | ⟨a0, _ | ⟨a1, g⟩⟩
      all_goals first
        | (exfalso; simp only [List.length_cons, List.length_nil] at hlo hhi; omega)
        | (refine ⟨_, rfl, ?_⟩
           refine xo_load0 T_ rfl rfl rfl (by repeat (first | exact List.Mem.head _ | apply List.Mem.tail | apply List.mem_append_right)) rfl rfl ?_
           exact xo_fin rfl)
    refine DrawE.pure 0 0 rfl (.inr (by decide)) (fun L g hg hd => Nat.zero_le _) (fun g hlo hhi hF τ => ?_) ?_
    · rcases g with _ | ⟨a0, _ | ⟨a1, g⟩⟩
      all_goals first
        | (exfalso; simp only [List.length_cons, List.length_nil] at hlo hhi; omega)
        | (refine ⟨_, rfl, ?_⟩
           refine xo_mv rfl rfl rfl ?_
           exact xo_fin rfl)
    refine DrawE.pure 0 0 rfl (.inr (by decide)) (fun L g hg hd => Nat.zero_le _) (fun g hlo hhi hF τ => ?_) ?_
    · rcases g with _ | ⟨a0, _ | ⟨a1, g⟩⟩
      all_goals first
        | (exfalso; simp only [List.length_cons, List.length_nil] at hlo hhi; omega)
        | (refine ⟨_, rfl, ?_⟩
           refine xo_callB (fs := []) (cs := []) rfl rfl rfl choose_enters rfl (fun w1 hw1 => (cottonpadlaw04_choose.calls C c2 by_ 2 c2_ w1 (Kd.C_below hy hw1.kx.below) hc2 e2).mono fun e w' q => ⟨q.1, q.2.below⟩) ?_
           exact xo_fin rfl)
    refine DrawE.pure 0 0 rfl (.inr (by decide)) (fun L g hg hd => Nat.zero_le _) (fun g hlo hhi hF τ => ?_) ?_
    · rcases g with _ | ⟨a0, _ | ⟨a1, g⟩⟩
      all_goals first
        | (exfalso; simp only [List.length_cons, List.length_nil] at hlo hhi; omega)
        | (refine ⟨_, rfl, ?_⟩
           refine xo_fa T_ rfl rfl rfl rfl rfl ?_
           exact xo_fin rfl)
    refine DrawE.pure 0 0 rfl (.inr (by decide)) (fun L g hg hd => Nat.zero_le _) (fun g hlo hhi hF τ => ?_) ?_
    · rcases g with _ | ⟨a0, _ | ⟨a1, g⟩⟩
      all_goals first
        | (exfalso; simp only [List.length_cons, List.length_nil] at hlo hhi; omega)
        | (refine ⟨_, rfl, ?_⟩
           refine xo_fa T_ rfl rfl rfl rfl rfl ?_
           exact xo_fin rfl)
    refine DrawE.pure 0 0 rfl (.inr (by decide)) (fun L g hg hd => Nat.zero_le _) (fun g hlo hhi hF τ => ?_) ?_
    · rcases g with _ | ⟨a0, _ | ⟨a1, g⟩⟩
      all_goals first
        | (exfalso; simp only [List.length_cons, List.length_nil] at hlo hhi; omega)
        | (refine ⟨_, rfl, ?_⟩
           refine xo_load0 T_ rfl rfl rfl (by repeat (first | exact List.Mem.head _ | apply List.Mem.tail | apply List.mem_append_right)) rfl rfl ?_
           exact xo_fin rfl)
    refine DrawE.pure 0 0 rfl (.inr (by decide)) (fun L g hg hd => Nat.zero_le _) (fun g hlo hhi hF τ => ?_) ?_
    · rcases g with _ | ⟨a0, _ | ⟨a1, g⟩⟩
      all_goals first
        | (exfalso; simp only [List.length_cons, List.length_nil] at hlo hhi; omega)
        | (refine ⟨_, rfl, ?_⟩
           refine xo_add rfl rfl rfl (by omega) rfl ?_
           exact xo_fin rfl)
    refine DrawE.pure 0 0 rfl (.inr (by decide)) (fun L g hg hd => Nat.zero_le _) (fun g hlo hhi hF τ => ?_) ?_
    · rcases g with _ | ⟨a0, _ | ⟨a1, g⟩⟩
      all_goals first
        | (exfalso; simp only [List.length_cons, List.length_nil] at hlo hhi; omega)
        | (refine ⟨_, rfl, ?_⟩
           refine xo_rem rfl rfl rfl (by omega) (by omega) rfl ?_
           exact xo_fin rfl)
    refine DrawE.pure 0 0 rfl (.inr (by decide)) (fun L g hg hd => Nat.zero_le _) (fun g hlo hhi hF τ => ?_) ?_
    · rcases g with _ | ⟨a0, _ | ⟨a1, g⟩⟩
      all_goals first
        | (exfalso; simp only [List.length_cons, List.length_nil] at hlo hhi; omega)
        | (refine ⟨_, rfl, ?_⟩
           refine xo_sub rfl rfl rfl (by omega) rfl ?_
           exact xo_fin rfl)
    refine DrawE.pure 0 0 rfl (.inr (by decide)) (fun L g hg hd => Nat.zero_le _) (fun g hlo hhi hF τ => ?_) ?_
    · rcases g with _ | ⟨a0, _ | ⟨a1, g⟩⟩
      all_goals first
        | (exfalso; simp only [List.length_cons, List.length_nil] at hlo hhi; omega)
        | (refine ⟨_, rfl, ?_⟩
           refine xo_fa T_ rfl rfl rfl rfl rfl ?_
           exact xo_fin rfl)
    refine DrawE.pure 0 0 rfl (.inr (by decide)) (fun L g hg hd => Nat.zero_le _) (fun g hlo hhi hF τ => ?_) ?_
    · rcases g with _ | ⟨a0, _ | ⟨a1, g⟩⟩
      all_goals first
        | (exfalso; simp only [List.length_cons, List.length_nil] at hlo hhi; omega)
        | (refine ⟨_, rfl, ?_⟩
           refine xo_fa T_ rfl rfl rfl rfl rfl ?_
           exact xo_fin rfl)
    refine DrawE.pure 0 0 rfl (.inr (by decide)) (fun L g hg hd => Nat.zero_le _) (fun g hlo hhi hF τ => ?_) ?_
    · rcases g with _ | ⟨a0, _ | ⟨a1, g⟩⟩
      all_goals first
        | (exfalso; simp only [List.length_cons, List.length_nil] at hlo hhi; omega)
        | (refine ⟨_, rfl, ?_⟩
           refine xo_load0 T_ rfl rfl rfl (by repeat (first | exact List.Mem.head _ | apply List.Mem.tail | apply List.mem_append_right)) rfl rfl ?_
           exact xo_fin rfl)
    refine DrawE.pure 0 0 rfl (.inr (by decide)) (fun L g hg hd => Nat.zero_le _) (fun g hlo hhi hF τ => ?_) ?_
    · rcases g with _ | ⟨a0, _ | ⟨a1, g⟩⟩
      all_goals first
        | (exfalso; simp only [List.length_cons, List.length_nil] at hlo hhi; omega)
        | (refine ⟨_, rfl, ?_⟩
           refine xo_mv rfl rfl rfl ?_
           exact xo_fin rfl)
    refine DrawE.pure 0 0 rfl (.inr (by decide)) (fun L g hg hd => Nat.zero_le _) (fun g hlo hhi hF τ => ?_) ?_
    · rcases g with _ | ⟨a0, _ | ⟨a1, g⟩⟩
      all_goals first
        | (exfalso; simp only [List.length_cons, List.length_nil] at hlo hhi; omega)
        | (refine ⟨_, rfl, ?_⟩
           refine xo_callB (fs := []) (cs := []) rfl rfl rfl choose_enters rfl (fun w1 hw1 => (cottonpadlaw04_choose.calls C c2 by_ 3 c3 w1 (Kd.C_below hy hw1.kx.below) hc2 e3).mono fun e w' q => ⟨q.1, q.2.below⟩) ?_
           exact xo_fin rfl)
    refine DrawE.pure 0 0 rfl (.inr (by decide)) (fun L g hg hd => Nat.zero_le _) (fun g hlo hhi hF τ => ?_) ?_
    · rcases g with _ | ⟨a0, _ | ⟨a1, g⟩⟩
      all_goals first
        | (exfalso; simp only [List.length_cons, List.length_nil] at hlo hhi; omega)
        | (refine ⟨_, rfl, ?_⟩
           refine xo_fa T_ rfl rfl rfl rfl rfl ?_
           exact xo_fin rfl)
    refine DrawE.pure 0 0 rfl (.inr (by decide)) (fun L g hg hd => Nat.zero_le _) (fun g hlo hhi hF τ => ?_) ?_
    · rcases g with _ | ⟨a0, _ | ⟨a1, g⟩⟩
      all_goals first
        | (exfalso; simp only [List.length_cons, List.length_nil] at hlo hhi; omega)
        | (refine ⟨_, rfl, ?_⟩
           refine xo_fa T_ rfl rfl rfl rfl rfl ?_
           exact xo_fin rfl)
    refine DrawE.pure 0 0 rfl (.inr (by decide)) (fun L g hg hd => Nat.zero_le _) (fun g hlo hhi hF τ => ?_) ?_
    · rcases g with _ | ⟨a0, _ | ⟨a1, g⟩⟩
      all_goals first
        | (exfalso; simp only [List.length_cons, List.length_nil] at hlo hhi; omega)
        | (refine ⟨_, rfl, ?_⟩
           refine xo_load0 T_ rfl rfl rfl (by repeat (first | exact List.Mem.head _ | apply List.Mem.tail | apply List.mem_append_right)) rfl rfl ?_
           exact xo_fin rfl)
    refine DrawE.pure 0 0 rfl (.inr (by decide)) (fun L g hg hd => Nat.zero_le _) (fun g hlo hhi hF τ => ?_) ?_
    · rcases g with _ | ⟨a0, _ | ⟨a1, g⟩⟩
      all_goals first
        | (exfalso; simp only [List.length_cons, List.length_nil] at hlo hhi; omega)
        | (refine ⟨_, rfl, ?_⟩
           refine xo_sub rfl rfl rfl (by omega) rfl ?_
           exact xo_fin rfl)
    refine DrawE.pure 0 0 rfl (.inr (by decide)) (fun L g hg hd => Nat.zero_le _) (fun g hlo hhi hF τ => ?_) ?_
    · rcases g with _ | ⟨a0, _ | ⟨a1, g⟩⟩
      all_goals first
        | (exfalso; simp only [List.length_cons, List.length_nil] at hlo hhi; omega)
        | (refine ⟨_, rfl, ?_⟩
           refine xo_add rfl rfl rfl (by omega) rfl ?_
           exact xo_fin rfl)
    refine DrawE.pure 0 0 rfl (.inr (by decide)) (fun L g hg hd => Nat.zero_le _) (fun g hlo hhi hF τ => ?_) ?_
    · rcases g with _ | ⟨a0, _ | ⟨a1, g⟩⟩
      all_goals first
        | (exfalso; simp only [List.length_cons, List.length_nil] at hlo hhi; omega)
        | (refine ⟨_, rfl, ?_⟩
           refine xo_rem rfl rfl rfl (by omega) (by omega) rfl ?_
           exact xo_fin rfl)
    refine DrawE.pure 0 0 rfl (.inr (by decide)) (fun L g hg hd => Nat.zero_le _) (fun g hlo hhi hF τ => ?_) ?_
    · rcases g with _ | ⟨a0, _ | ⟨a1, g⟩⟩
      all_goals first
        | (exfalso; simp only [List.length_cons, List.length_nil] at hlo hhi; omega)
        | (refine ⟨_, rfl, ?_⟩
           refine xo_add rfl rfl rfl (by omega) rfl ?_
           exact xo_fin rfl)
    refine DrawE.pure 0 0 rfl (.inr (by decide)) (fun L g hg hd => Nat.zero_le _) (fun g hlo hhi hF τ => ?_) ?_
    · rcases g with _ | ⟨a0, _ | ⟨a1, g⟩⟩
      all_goals first
        | (exfalso; simp only [List.length_cons, List.length_nil] at hlo hhi; omega)
        | (refine ⟨_, rfl, ?_⟩
           refine xo_callB (fs := []) (cs := []) rfl rfl rfl span_enters rfl (fun w1 hw1 => cottonpadlaw04_span.calls (f0 - c2_ % (f0 + 1)) (f1 + c3 % (10000 - f1 + 1)) _ _ w1 rfl) ?_
           exact xo_fin rfl)
    refine DrawE.pure 0 0 rfl (.inr (by decide)) (fun L g hg hd => Nat.zero_le _) (fun g hlo hhi hF τ => ?_) ?_
    · rcases g with _ | ⟨a0, _ | ⟨a1, g⟩⟩
      all_goals first
        | (exfalso; simp only [List.length_cons, List.length_nil] at hlo hhi; omega)
        | (refine ⟨_, rfl, ?_⟩
           refine xo_fa T_ rfl rfl rfl rfl rfl ?_
           exact xo_fin rfl)
    refine DrawE.eff 0 rfl (by decide) rfl (fun j hj => hj) (fun j g a hj => ?_) (fun L g hg hd => Nat.zero_le _) (fun g hgl hF τ => ?_) ?_
    · rcases j with _ | _ | _ | _ | _ | _ | _ | _ | _ | _ | _ | _ | _ | _ | _ | _ | _ | _ | _ | _ | _ | _ | _ | _ | _ | _ | j
      all_goals first | rfl | (rcases g with _ | ⟨a0, _ | ⟨a1, g⟩⟩ <;> first | rfl | exact absurd hj (by decide) | exact absurd hj (by simp [List.getD]))
    · obtain rfl : g = [] := by
        rcases g with _ | ⟨a0, g⟩ <;> first | rfl | (exfalso; simp only [List.length_cons, List.length_nil] at hgl; omega)
      refine xo_store T_ rfl rfl rfl rfl (by repeat (first | exact List.Mem.head _ | apply List.Mem.tail | apply List.mem_append_right)) rfl rfl rfl rfl (by repeat (first | exact Upd.head | apply Upd.tail | apply Upd.app)) rfl ?_
      exact xo_finE ⟨0, 0, none⟩ rfl trivial
    exact DrawE.nil
  intro g hgl hF
  obtain ⟨a0, rfl⟩ : ∃ a0, g = [a0] := by
    rcases g with _ | ⟨a0, _ | ⟨a1, g⟩⟩ <;> first | exact ⟨_, rfl⟩ | (exfalso; simp only [List.length_cons, List.length_nil] at hgl; omega)
  with_reducible repeat (first | refine xq_then ?_ | refine xq_blockN ?_ | refine xq_scopeN ?_)
  with_reducible repeat refine xc_seq ?_
  refine xc_slots [(1, .slice A l.length c), (2, .slice C by_.length c2), (3, .int .u8 sec), (4, .int .i64 lv), (5, .pointer (some ⟨b5, 0, none⟩)), (11, .bool true), (12, .pointer (some ⟨b12, 0, none⟩))] ⟨rfl, rfl, rfl, rfl, rfl, rfl, rfl, trivial⟩ ?_
  clear hgl hF
  generalize c2_ % (f0 + 1) = z2 at *
  generalize c3 % (10000 - f1 + 1) = z3 at *
  obtain ⟨F0, hF0⟩ : ∃ x, x = f0 - z2 := ⟨_, rfl⟩
  obtain ⟨F1, hF1⟩ : ∃ x, x = f1 + z3 := ⟨_, rfl⟩
  rw [← hF0, ← hF1]
  have m4 := Int.emod_nonneg c4 (show j0 + 1 ≠ 0 by omega)
  have n4 := Int.emod_lt_of_pos c4 (show 0 < j0 + 1 by omega)
  have m5 := Int.emod_nonneg c5 (show 30000 - j1 + 1 ≠ 0 by omega)
  have n5 := Int.emod_lt_of_pos c5 (show 0 < 30000 - j1 + 1 by omega)
  with_reducible repeat refine xc_seq ?_
  apply xc_drawE (fun g => [(25, undef)]) (fun (η0 : Hp) g => match g with | [] => (η0) | a0 :: _ => ([(b12, true, cel [.int .i64 B0, .int .i64 B1, .int .i64 F0, .int .i64 F1, .int .i64 (j0 - c4 % (j0 + 1)), .int .i64 (j1 + c5 % (30000 - j1 + 1)), .int .i64 g0, .int .i64 g1, .int .i64 dr] 25), (b5, true, cel [.int .i64 b0, .int .i64 b1, .int .i64 f0, .int .i64 f1, .int .i64 j0, .int .i64 j1, .int .i64 g0, .int .i64 g1, .int .i64 dr] 25)])) (fun _ => True) [0, 0, 0, 0, 0, 0, 0, 0, 0, 0, 0, 0, 0, 0, 0, 0, 0, 0, 0, 0, 0, 0, 0, 0, 0, 1] [25] [[24, 23, 23, 0, 1, 2, 3, 4, 5, 6, 7, 8, 9, 10, 11, 12, 13, 14, 15, 16, 17, 18, 19, 20, 21, 22, 23]] (by trivial)
  apply SameLen.cons
  apply SameLen.cons
  apply SameLen.cons
  apply SameLen.cons
  apply SameLen.cons
  apply SameLen.cons
  apply SameLen.cons
  apply SameLen.cons
  apply SameLen.cons
  apply SameLen.cons
  apply SameLen.cons
  apply SameLen.cons
  apply SameLen.cons
  apply SameLen.cons
  apply SameLen.cons
  apply SameLen.cons
  apply SameLen.cons
  apply SameLen.cons
  apply SameLen.cons
  apply SameLen.cons
  apply SameLen.cons
  apply SameLen.cons
  apply SameLen.cons
  apply SameLen.cons
  apply SameLen.cons
  apply SameLen.cons (c := undef)
  exact SameLen.nil
  rotate_left 25
  case hH0 => rfl
  case hmix => exact T_.mixed
  case hbind => rfl
  case hdeps => rfl
  case hdist => rfl
  case hfresh => rfl
  case hE => rfl
  case hEn => decide
  · refine DrawE.pure 0 0 rfl (.inr (by decide)) (fun L g hg hd => Nat.zero_le _) (fun g hlo hhi hF τ => ?_) ?_
    · rcases g with _ | ⟨a0, _ | ⟨a1, g⟩⟩
      all_goals first
        | (exfalso; simp only [List.length_cons, List.length_nil] at hlo hhi; omega)
        | (refine ⟨_, rfl, ?_⟩
           refine xo_fa T_ rfl rfl rfl rfl rfl ?_
           exact xo_fin rfl)
    refine DrawE.pure 0 0 rfl (.inr (by decide)) (fun L g hg hd => Nat.zero_le _) (fun g hlo hhi hF τ => ?_) ?_
    · rcases g with _ | ⟨a0, _ | ⟨a1, g⟩⟩
      all_goals first
        | (exfalso; simp only [List.length_cons, List.length_nil] at hlo hhi; omega)
        | (refine ⟨_, rfl, ?_⟩
           refine xo_fa T_ rfl rfl rfl rfl rfl ?_
           exact xo_fin rfl)
    refine DrawE.pure 0 0 rfl (.inr (by decide)) (fun L g hg hd => Nat.zero_le _) (fun g hlo hhi hF τ => ?_) ?_
    · rcases g with _ | ⟨a0, _ | ⟨a1, g⟩⟩
      all_goals first
        | (exfalso; simp only [List.length_cons, List.length_nil] at hlo hhi; omega)
        | (refine ⟨_, rfl, ?_⟩
           refine xo_load0 T_ rfl rfl rfl (by repeat (first | exact List.Mem.head _ | apply List.Mem.tail | apply List.mem_append_right)) rfl rfl ?_
           exact xo_fin rfl)
    refine DrawE.pure 0 0 rfl (.inr (by decide)) (fun L g hg hd => Nat.zero_le _) (fun g hlo hhi hF τ => ?_) ?_
    · rcases g with _ | ⟨a0, _ | ⟨a1, g⟩⟩
      all_goals first
        | (exfalso; simp only [List.length_cons, List.length_nil] at hlo hhi; omega)
        | (refine ⟨_, rfl, ?_⟩
           refine xo_mv rfl rfl rfl ?_
           exact xo_fin rfl)
    refine DrawE.pure 0 0 rfl (.inr (by decide)) (fun L g hg hd => Nat.zero_le _) (fun g hlo hhi hF τ => ?_) ?_
    · rcases g with _ | ⟨a0, _ | ⟨a1, g⟩⟩
      all_goals first
        | (exfalso; simp only [List.length_cons, List.length_nil] at hlo hhi; omega)
        | (refine ⟨_, rfl, ?_⟩
           refine xo_callB (fs := []) (cs := []) rfl rfl rfl choose_enters rfl (fun w1 hw1 => (cottonpadlaw04_choose.calls C c2 by_ 4 c4 w1 (Kd.C_below hy hw1.kx.below) hc2 e4).mono fun e w' q => ⟨q.1, q.2.below⟩) ?_
           exact xo_fin rfl)
    refine DrawE.pure 0 0 rfl (.inr (by decide)) (fun L g hg hd => Nat.zero_le _) (fun g hlo hhi hF τ => ?_) ?_
    · rcases g with _ | ⟨a0, _ | ⟨a1, g⟩⟩
      all_goals first
        | (exfalso; simp only [List.length_cons, List.length_nil] at hlo hhi; omega)
        | (refine ⟨_, rfl, ?_⟩
           refine xo_fa T_ rfl rfl rfl rfl rfl ?_
           exact xo_fin rfl)
    refine DrawE.pure 0 0 rfl (.inr (by decide)) (fun L g hg hd => Nat.zero_le _) (fun g hlo hhi hF τ => ?_) ?_
    · rcases g with _ | ⟨a0, _ | ⟨a1, g⟩⟩
      all_goals first
        | (exfalso; simp only [List.length_cons, List.length_nil] at hlo hhi; omega)
        | (refine ⟨_, rfl, ?_⟩
           refine xo_fa T_ rfl rfl rfl rfl rfl ?_
           exact xo_fin rfl)
    refine DrawE.pure 0 0 rfl (.inr (by decide)) (fun L g hg hd => Nat.zero_le _) (fun g hlo hhi hF τ => ?_) ?_
    · rcases g with _ | ⟨a0, _ | ⟨a1, g⟩⟩
      all_goals first
        | (exfalso; simp only [List.length_cons, List.length_nil] at hlo hhi; omega)
        | (refine ⟨_, rfl, ?_⟩
           refine xo_load0 T_ rfl rfl rfl (by repeat (first | exact List.Mem.head _ | apply List.Mem.tail | apply List.mem_append_right)) rfl rfl ?_
           exact xo_fin rfl)
    refine DrawE.pure 0 0 rfl (.inr (by decide)) (fun L g hg hd => Nat.zero_le _) (fun g hlo hhi hF τ => ?_) ?_
    · rcases g with _ | ⟨a0, _ | ⟨a1, g⟩⟩
      all_goals first
        | (exfalso; simp only [List.length_cons, List.length_nil] at hlo hhi; omega)
        | (refine ⟨_, rfl, ?_⟩
           refine xo_add rfl rfl rfl (by omega) rfl ?_
           exact xo_fin rfl)
    refine DrawE.pure 0 0 rfl (.inr (by decide)) (fun L g hg hd => Nat.zero_le _) (fun g hlo hhi hF τ => ?_) ?_
    · rcases g with _ | ⟨a0, _ | ⟨a1, g⟩⟩
      all_goals first
        | (exfalso; simp only [List.length_cons, List.length_nil] at hlo hhi; omega)
        | (refine ⟨_, rfl, ?_⟩
           refine xo_rem rfl rfl rfl (by omega) (by omega) rfl ?_
           exact xo_fin rfl)
    refine DrawE.pure 0 0 rfl (.inr (by decide)) (fun L g hg hd => Nat.zero_le _) (fun g hlo hhi hF τ => ?_) ?_
    · rcases g with _ | ⟨a0, _ | ⟨a1, g⟩⟩
      all_goals first
        | (exfalso; simp only [List.length_cons, List.length_nil] at hlo hhi; omega)
        | (refine ⟨_, rfl, ?_⟩
           refine xo_sub rfl rfl rfl (by omega) rfl ?_
           exact xo_fin rfl)
    refine DrawE.pure 0 0 rfl (.inr (by decide)) (fun L g hg hd => Nat.zero_le _) (fun g hlo hhi hF τ => ?_) ?_
    · rcases g with _ | ⟨a0, _ | ⟨a1, g⟩⟩
      all_goals first
        | (exfalso; simp only [List.length_cons, List.length_nil] at hlo hhi; omega)
        | (refine ⟨_, rfl, ?_⟩
           refine xo_fa T_ rfl rfl rfl rfl rfl ?_
           exact xo_fin rfl)
    refine DrawE.pure 0 0 rfl (.inr (by decide)) (fun L g hg hd => Nat.zero_le _) (fun g hlo hhi hF τ => ?_) ?_
    · rcases g with _ | ⟨a0, _ | ⟨a1, g⟩⟩
      all_goals first
        | (exfalso; simp only [List.length_cons, List.length_nil] at hlo hhi; omega)
        | (refine ⟨_, rfl, ?_⟩
           refine xo_fa T_ rfl rfl rfl rfl rfl ?_
           exact xo_fin rfl)
    refine DrawE.pure 0 0 rfl (.inr (by decide)) (fun L g hg hd => Nat.zero_le _) (fun g hlo hhi hF τ => ?_) ?_
    · rcases g with _ | ⟨a0, _ | ⟨a1, g⟩⟩
      all_goals first
        | (exfalso; simp only [List.length_cons, List.length_nil] at hlo hhi; omega)
        | (refine ⟨_, rfl, ?_⟩
           refine xo_load0 T_ rfl rfl rfl (by repeat (first | exact List.Mem.head _ | apply List.Mem.tail | apply List.mem_append_right)) rfl rfl ?_
           exact xo_fin rfl)
    refine DrawE.pure 0 0 rfl (.inr (by decide)) (fun L g hg hd => Nat.zero_le _) (fun g hlo hhi hF τ => ?_) ?_
    · rcases g with _ | ⟨a0, _ | ⟨a1, g⟩⟩
      all_goals first
        | (exfalso; simp only [List.length_cons, List.length_nil] at hlo hhi; omega)
        | (refine ⟨_, rfl, ?_⟩
           refine xo_mv rfl rfl rfl ?_
           exact xo_fin rfl)
    refine DrawE.pure 0 0 rfl (.inr (by decide)) (fun L g hg hd => Nat.zero_le _) (fun g hlo hhi hF τ => ?_) ?_
    · rcases g with _ | ⟨a0, _ | ⟨a1, g⟩⟩
      all_goals first
        | (exfalso; simp only [List.length_cons, List.length_nil] at hlo hhi; omega)
        | (refine ⟨_, rfl, ?_⟩
           refine xo_callB (fs := []) (cs := []) rfl rfl rfl choose_enters rfl (fun w1 hw1 => (cottonpadlaw04_choose.calls C c2 by_ 5 c5 w1 (Kd.C_below hy hw1.kx.below) hc2 e5).mono fun e w' q => ⟨q.1, q.2.below⟩) ?_
           exact xo_fin rfl)
    refine DrawE.pure 0 0 rfl (.inr (by decide)) (fun L g hg hd => Nat.zero_le _) (fun g hlo hhi hF τ => ?_) ?_
    · rcases g with _ | ⟨a0, _ | ⟨a1, g⟩⟩
      all_goals first
        | (exfalso; simp only [List.length_cons, List.length_nil] at hlo hhi; omega)
        | (refine ⟨_, rfl, ?_⟩
           refine xo_fa T_ rfl rfl rfl rfl rfl ?_
           exact xo_fin rfl)
    refine DrawE.pure 0 0 rfl (.inr (by decide)) (fun L g hg hd => Nat.zero_le _) (fun g hlo hhi hF τ => ?_) ?_
    · rcases g with _ | ⟨a0, _ | ⟨a1, g⟩⟩
      all_goals first
        | (exfalso; simp only [List.length_cons, List.length_nil] at hlo hhi; omega)
        | (refine ⟨_, rfl, ?_⟩
           refine xo_fa T_ rfl rfl rfl rfl rfl ?_
           exact xo_fin rfl)
    refine DrawE.pure 0 0 rfl (.inr (by decide)) (fun L g hg hd => Nat.zero_le _) (fun g hlo hhi hF τ => ?_) ?_
    · rcases g with _ | ⟨a0, _ | ⟨a1, g⟩⟩
      all_goals first
        | (exfalso; simp only [List.length_cons, List.length_nil] at hlo hhi; omega)
        | (refine ⟨_, rfl, ?_⟩
           refine xo_load0 T_ rfl rfl rfl (by repeat (first | exact List.Mem.head _ | apply List.Mem.tail | apply List.mem_append_right)) rfl rfl ?_
           exact xo_fin rfl)
    refine DrawE.pure 0 0 rfl (.inr (by decide)) (fun L g hg hd => Nat.zero_le _) (fun g hlo hhi hF τ => ?_) ?_
    · rcases g with _ | ⟨a0, _ | ⟨a1, g⟩⟩
      all_goals first
        | (exfalso; simp only [List.length_cons, List.length_nil] at hlo hhi; omega)
        | (refine ⟨_, rfl, ?_⟩
           refine xo_sub rfl rfl rfl (by omega) rfl ?_
           exact xo_fin rfl)
    refine DrawE.pure 0 0 rfl (.inr (by decide)) (fun L g hg hd => Nat.zero_le _) (fun g hlo hhi hF τ => ?_) ?_
    · rcases g with _ | ⟨a0, _ | ⟨a1, g⟩⟩
      all_goals first
        | (exfalso; simp only [List.length_cons, List.length_nil] at hlo hhi; omega)
        | (refine ⟨_, rfl, ?_⟩
           refine xo_add rfl rfl rfl (by omega) rfl ?_
           exact xo_fin rfl)
    refine DrawE.pure 0 0 rfl (.inr (by decide)) (fun L g hg hd => Nat.zero_le _) (fun g hlo hhi hF τ => ?_) ?_
    · rcases g with _ | ⟨a0, _ | ⟨a1, g⟩⟩
      all_goals first
        | (exfalso; simp only [List.length_cons, List.length_nil] at hlo hhi; omega)
        | (refine ⟨_, rfl, ?_⟩
           refine xo_rem rfl rfl rfl (by omega) (by omega) rfl ?_
           exact xo_fin rfl)
    refine DrawE.pure 0 0 rfl (.inr (by decide)) (fun L g hg hd => Nat.zero_le _) (fun g hlo hhi hF τ => ?_) ?_
    · rcases g with _ | ⟨a0, _ | ⟨a1, g⟩⟩
      all_goals first
        | (exfalso; simp only [List.length_cons, List.length_nil] at hlo hhi; omega)
        | (refine ⟨_, rfl, ?_⟩
           refine xo_add rfl rfl rfl (by omega) rfl ?_
           exact xo_fin rfl)
    refine DrawE.pure 0 0 rfl (.inr (by decide)) (fun L g hg hd => Nat.zero_le _) (fun g hlo hhi hF τ => ?_) ?_
    · rcases g with _ | ⟨a0, _ | ⟨a1, g⟩⟩
      all_goals first
        | (exfalso; simp only [List.length_cons, List.length_nil] at hlo hhi; omega)
        | (refine ⟨_, rfl, ?_⟩
           refine xo_callB (fs := []) (cs := []) rfl rfl rfl span_enters rfl (fun w1 hw1 => cottonpadlaw04_span.calls (j0 - c4 % (j0 + 1)) (j1 + c5 % (30000 - j1 + 1)) _ _ w1 rfl) ?_
           exact xo_fin rfl)
    refine DrawE.pure 0 0 rfl (.inr (by decide)) (fun L g hg hd => Nat.zero_le _) (fun g hlo hhi hF τ => ?_) ?_
    · rcases g with _ | ⟨a0, _ | ⟨a1, g⟩⟩
      all_goals first
        | (exfalso; simp only [List.length_cons, List.length_nil] at hlo hhi; omega)
        | (refine ⟨_, rfl, ?_⟩
           refine xo_fa T_ rfl rfl rfl rfl rfl ?_
           exact xo_fin rfl)
    refine DrawE.eff 0 rfl (by decide) rfl (fun j hj => hj) (fun j g a hj => ?_) (fun L g hg hd => Nat.zero_le _) (fun g hgl hF τ => ?_) ?_
    · rcases j with _ | _ | _ | _ | _ | _ | _ | _ | _ | _ | _ | _ | _ | _ | _ | _ | _ | _ | _ | _ | _ | _ | _ | _ | _ | _ | j
      all_goals first | rfl | (rcases g with _ | ⟨a0, _ | ⟨a1, g⟩⟩ <;> first | rfl | exact absurd hj (by decide) | exact absurd hj (by simp [List.getD]))
    · obtain rfl : g = [] := by
        rcases g with _ | ⟨a0, g⟩ <;> first | rfl | (exfalso; simp only [List.length_cons, List.length_nil] at hgl; omega)
      refine xo_store T_ rfl rfl rfl rfl (by repeat (first | exact List.Mem.head _ | apply List.Mem.tail | apply List.mem_append_right)) rfl rfl rfl rfl (by repeat (first | exact Upd.head | apply Upd.tail | apply Upd.app)) rfl ?_
      exact xo_finE ⟨0, 0, none⟩ rfl trivial
    exact DrawE.nil
  intro g hgl hF
  obtain ⟨a0, rfl⟩ : ∃ a0, g = [a0] := by
    rcases g with _ | ⟨a0, _ | ⟨a1, g⟩⟩ <;> first | exact ⟨_, rfl⟩ | (exfalso; simp only [List.length_cons, List.length_nil] at hgl; omega)
  with_reducible repeat (first | refine xq_then ?_ | refine xq_blockN ?_ | refine xq_scopeN ?_)
  with_reducible repeat refine xc_seq ?_
  refine xc_slots [(1, .slice A l.length c), (2, .slice C by_.length c2), (3, .int .u8 sec), (4, .int .i64 lv), (5, .pointer (some ⟨b5, 0, none⟩)), (11, .bool true), (12, .pointer (some ⟨b12, 0, none⟩))] ⟨rfl, rfl, rfl, rfl, rfl, rfl, rfl, trivial⟩ ?_
  clear hgl hF
  generalize c4 % (j0 + 1) = z4 at *
  generalize c5 % (30000 - j1 + 1) = z5 at *
  obtain ⟨J0, hJ0⟩ : ∃ x, x = j0 - z4 := ⟨_, rfl⟩
  obtain ⟨J1, hJ1⟩ : ∃ x, x = j1 + z5 := ⟨_, rfl⟩
  rw [← hJ0, ← hJ1]
  have m6 := Int.emod_nonneg c6 (show g0 + 1 ≠ 0 by omega)
  have n6 := Int.emod_lt_of_pos c6 (show 0 < g0 + 1 by omega)
  with_reducible repeat refine xc_seq ?_
  apply xc_drawE (fun g => [(13, undef)]) (fun (η0 : Hp) g => match g with | [] => (η0) | a0 :: _ => ([(b12, true, cel [.int .i64 B0, .int .i64 B1, .int .i64 F0, .int .i64 F1, .int .i64 J0, .int .i64 J1, .int .i64 (g0 - c6 % (g0 + 1)), .int .i64 g1, .int .i64 dr] 25), (b5, true, cel [.int .i64 b0, .int .i64 b1, .int .i64 f0, .int .i64 f1, .int .i64 j0, .int .i64 j1, .int .i64 g0, .int .i64 g1, .int .i64 dr] 25)])) (fun _ => True) [0, 0, 0, 0, 0, 0, 0, 0, 0, 0, 0, 0, 0, 1] [13] [[12, 10, 4, 0, 1, 2, 3, 4, 5, 6, 7, 8, 9, 10]] (by trivial)
  apply SameLen.cons
  apply SameLen.cons
  apply SameLen.cons
  apply SameLen.cons
  apply SameLen.cons
  apply SameLen.cons
  apply SameLen.cons
  apply SameLen.cons
  apply SameLen.cons
  apply SameLen.cons
  apply SameLen.cons
  apply SameLen.cons
  apply SameLen.cons
  apply SameLen.cons (c := undef)
  exact SameLen.nil
  rotate_left 13
  case hH0 => rfl
  case hmix => exact T_.mixed
  case hbind => rfl
  case hdeps => rfl
  case hdist => rfl
  case hfresh => rfl
  case hE => rfl
  case hEn => decide
  · refine DrawE.pure 0 0 rfl (.inr (by decide)) (fun L g hg hd => Nat.zero_le _) (fun g hlo hhi hF τ => ?_) ?_
    · rcases g with _ | ⟨a0, _ | ⟨a1, g⟩⟩
      all_goals first
        | (exfalso; simp only [List.length_cons, List.length_nil] at hlo hhi; omega)
        | (refine ⟨_, rfl, ?_⟩
           refine xo_fa T_ rfl rfl rfl rfl rfl ?_
           exact xo_fin rfl)
    refine DrawE.pure 0 0 rfl (.inr (by decide)) (fun L g hg hd => Nat.zero_le _) (fun g hlo hhi hF τ => ?_) ?_
    · rcases g with _ | ⟨a0, _ | ⟨a1, g⟩⟩
      all_goals first
        | (exfalso; simp only [List.length_cons, List.length_nil] at hlo hhi; omega)
        | (refine ⟨_, rfl, ?_⟩
           refine xo_fa T_ rfl rfl rfl rfl rfl ?_
           exact xo_fin rfl)
    refine DrawE.pure 0 0 rfl (.inr (by decide)) (fun L g hg hd => Nat.zero_le _) (fun g hlo hhi hF τ => ?_) ?_
    · rcases g with _ | ⟨a0, _ | ⟨a1, g⟩⟩
      all_goals first
        | (exfalso; simp only [List.length_cons, List.length_nil] at hlo hhi; omega)
        | (refine ⟨_, rfl, ?_⟩
           refine xo_load0 T_ rfl rfl rfl (by repeat (first | exact List.Mem.head _ | apply List.Mem.tail | apply List.mem_append_right)) rfl rfl ?_
           exact xo_fin rfl)
    refine DrawE.pure 0 0 rfl (.inr (by decide)) (fun L g hg hd => Nat.zero_le _) (fun g hlo hhi hF τ => ?_) ?_
    · rcases g with _ | ⟨a0, _ | ⟨a1, g⟩⟩
      all_goals first
        | (exfalso; simp only [List.length_cons, List.length_nil] at hlo hhi; omega)
        | (refine ⟨_, rfl, ?_⟩
           refine xo_mv rfl rfl rfl ?_
           exact xo_fin rfl)
    refine DrawE.pure 0 0 rfl (.inr (by decide)) (fun L g hg hd => Nat.zero_le _) (fun g hlo hhi hF τ => ?_) ?_
    · rcases g with _ | ⟨a0, _ | ⟨a1, g⟩⟩
      all_goals first
        | (exfalso; simp only [List.length_cons, List.length_nil] at hlo hhi; omega)
        | (refine ⟨_, rfl, ?_⟩
           refine xo_callB (fs := []) (cs := []) rfl rfl rfl choose_enters rfl (fun w1 hw1 => (cottonpadlaw04_choose.calls C c2 by_ 6 c6 w1 (Kd.C_below hy hw1.kx.below) hc2 e6).mono fun e w' q => ⟨q.1, q.2.below⟩) ?_
           exact xo_fin rfl)
    refine DrawE.pure 0 0 rfl (.inr (by decide)) (fun L g hg hd => Nat.zero_le _) (fun g hlo hhi hF τ => ?_) ?_
    · rcases g with _ | ⟨a0, _ | ⟨a1, g⟩⟩
      all_goals first
        | (exfalso; simp only [List.length_cons, List.length_nil] at hlo hhi; omega)
        | (refine ⟨_, rfl, ?_⟩
           refine xo_fa T_ rfl rfl rfl rfl rfl ?_
           exact xo_fin rfl)
    refine DrawE.pure 0 0 rfl (.inr (by decide)) (fun L g hg hd => Nat.zero_le _) (fun g hlo hhi hF τ => ?_) ?_
    · rcases g with _ | ⟨a0, _ | ⟨a1, g⟩⟩
      all_goals first
        | (exfalso; simp only [List.length_cons, List.length_nil] at hlo hhi; omega)
        | (refine ⟨_, rfl, ?_⟩
           refine xo_fa T_ rfl rfl rfl rfl rfl ?_
           exact xo_fin rfl)
    refine DrawE.pure 0 0 rfl (.inr (by decide)) (fun L g hg hd => Nat.zero_le _) (fun g hlo hhi hF τ => ?_) ?_
    · rcases g with _ | ⟨a0, _ | ⟨a1, g⟩⟩
      all_goals first
        | (exfalso; simp only [List.length_cons, List.length_nil] at hlo hhi; omega)
        | (refine ⟨_, rfl, ?_⟩
           refine xo_load0 T_ rfl rfl rfl (by repeat (first | exact List.Mem.head _ | apply List.Mem.tail | apply List.mem_append_right)) rfl rfl ?_
           exact xo_fin rfl)
    refine DrawE.pure 0 0 rfl (.inr (by decide)) (fun L g hg hd => Nat.zero_le _) (fun g hlo hhi hF τ => ?_) ?_
    · rcases g with _ | ⟨a0, _ | ⟨a1, g⟩⟩
      all_goals first
        | (exfalso; simp only [List.length_cons, List.length_nil] at hlo hhi; omega)
        | (refine ⟨_, rfl, ?_⟩
           refine xo_add rfl rfl rfl (by omega) rfl ?_
           exact xo_fin rfl)
    refine DrawE.pure 0 0 rfl (.inr (by decide)) (fun L g hg hd => Nat.zero_le _) (fun g hlo hhi hF τ => ?_) ?_
    · rcases g with _ | ⟨a0, _ | ⟨a1, g⟩⟩
      all_goals first
        | (exfalso; simp only [List.length_cons, List.length_nil] at hlo hhi; omega)
        | (refine ⟨_, rfl, ?_⟩
           refine xo_rem rfl rfl rfl (by omega) (by omega) rfl ?_
           exact xo_fin rfl)
    refine DrawE.pure 0 0 rfl (.inr (by decide)) (fun L g hg hd => Nat.zero_le _) (fun g hlo hhi hF τ => ?_) ?_
    · rcases g with _ | ⟨a0, _ | ⟨a1, g⟩⟩
      all_goals first
        | (exfalso; simp only [List.length_cons, List.length_nil] at hlo hhi; omega)
        | (refine ⟨_, rfl, ?_⟩
           refine xo_sub rfl rfl rfl (by omega) rfl ?_
           exact xo_fin rfl)
    refine DrawE.pure 0 1 rfl (.inl rfl) (fun L g hg hd => Nat.zero_le _) (fun g hlo hhi hF τ => ?_) ?_
    · rcases g with _ | ⟨a0, _ | ⟨a1, g⟩⟩
      all_goals first
        | (exfalso; simp only [List.length_cons, List.length_nil] at hlo hhi; omega)
        | (refine ⟨_, rfl, ?_⟩
           refine xo_fa T_ rfl rfl rfl rfl rfl ?_
           exact xo_fin rfl)
    refine DrawE.pure 0 0 rfl (.inr (by decide)) (fun L g hg hd => Nat.zero_le _) (fun g hlo hhi hF τ => ?_) ?_
    · rcases g with _ | ⟨a0, _ | ⟨a1, g⟩⟩
      all_goals first
        | (exfalso; simp only [List.length_cons, List.length_nil] at hlo hhi; omega)
        | (refine ⟨_, rfl, ?_⟩
           refine xo_fa T_ rfl rfl rfl rfl rfl ?_
           exact xo_fin rfl)
    refine DrawE.eff 0 rfl (by decide) rfl (fun j hj => hj) (fun j g a hj => ?_) (fun L g hg hd => Nat.zero_le _) (fun g hgl hF τ => ?_) ?_
    · rcases j with _ | _ | _ | _ | _ | _ | _ | _ | _ | _ | _ | _ | _ | _ | j
      all_goals first | rfl | (rcases g with _ | ⟨a0, _ | ⟨a1, g⟩⟩ <;> first | rfl | exact absurd hj (by decide) | exact absurd hj (by simp [List.getD]))
    · obtain rfl : g = [] := by
        rcases g with _ | ⟨a0, g⟩ <;> first | rfl | (exfalso; simp only [List.length_cons, List.length_nil] at hgl; omega)
      refine xo_store T_ rfl rfl rfl rfl (by repeat (first | exact List.Mem.head _ | apply List.Mem.tail | apply List.mem_append_right)) rfl rfl rfl rfl (by repeat (first | exact Upd.head | apply Upd.tail | apply Upd.app)) rfl ?_
      exact xo_finE ⟨0, 0, none⟩ rfl trivial
    exact DrawE.nil
  intro g hgl hF
  obtain ⟨a0, rfl⟩ : ∃ a0, g = [a0] := by
    rcases g with _ | ⟨a0, _ | ⟨a1, g⟩⟩ <;> first | exact ⟨_, rfl⟩ | (exfalso; simp only [List.length_cons, List.length_nil] at hgl; omega)
  with_reducible repeat (first | refine xq_then ?_ | refine xq_blockN ?_ | refine xq_scopeN ?_)
  with_reducible repeat refine xc_seq ?_
  refine xc_slots [(1, .slice A l.length c), (2, .slice C by_.length c2), (3, .int .u8 sec), (4, .int .i64 lv), (5, .pointer (some ⟨b5, 0, none⟩)), (11, .bool true), (12, .pointer (some ⟨b12, 0, none⟩))] ⟨rfl, rfl, rfl, rfl, rfl, rfl, rfl, trivial⟩ ?_
  clear hgl hF
  generalize c6 % (g0 + 1) = z6 at *
  obtain ⟨G0, hG0⟩ : ∃ x, x = g0 - z6 := ⟨_, rfl⟩
  rw [← hG0]
  have m7 := Int.emod_nonneg c7 (show 1000 - dr + 1 ≠ 0 by omega)
  have n7 := Int.emod_lt_of_pos c7 (show 0 < 1000 - dr + 1 by omega)
  with_reducible repeat refine xc_seq ?_
  apply xc_drawE (fun g => [(11, undef)]) (fun (η0 : Hp) g => match g with | [] => (η0) | a0 :: _ => ([(b12, true, cel [.int .i64 B0, .int .i64 B1, .int .i64 F0, .int .i64 F1, .int .i64 J0, .int .i64 J1, .int .i64 G0, .int .i64 g1, .int .i64 (dr + c7 % (1000 - dr + 1))] 25), (b5, true, cel [.int .i64 b0, .int .i64 b1, .int .i64 f0, .int .i64 f1, .int .i64 j0, .int .i64 j1, .int .i64 g0, .int .i64 g1, .int .i64 dr] 25)])) (fun _ => True) [0, 0, 0, 0, 0, 0, 0, 0, 0, 0, 0, 1] [11] [[10, 9, 3, 0, 1, 2, 3, 4, 5, 6, 7, 8, 9]] (by trivial)
  apply SameLen.cons
  apply SameLen.cons
  apply SameLen.cons
  apply SameLen.cons
  apply SameLen.cons
  apply SameLen.cons
  apply SameLen.cons
  apply SameLen.cons
  apply SameLen.cons
  apply SameLen.cons
  apply SameLen.cons
  apply SameLen.cons (c := undef)
  exact SameLen.nil
  rotate_left 11
  case hH0 => rfl
  case hmix => exact T_.mixed
  case hbind => rfl
  case hdeps => rfl
  case hdist => rfl
  case hfresh => rfl
  case hE => rfl
  case hEn => decide
  · refine DrawE.pure 0 0 rfl (.inr (by decide)) (fun L g hg hd => Nat.zero_le _) (fun g hlo hhi hF τ => ?_) ?_
    · rcases g with _ | ⟨a0, _ | ⟨a1, g⟩⟩
      all_goals first
        | (exfalso; simp only [List.length_cons, List.length_nil] at hlo hhi; omega)
        | (refine ⟨_, rfl, ?_⟩
           refine xo_fa T_ rfl rfl rfl rfl rfl ?_
           exact xo_fin rfl)
    refine DrawE.pure 0 0 rfl (.inr (by decide)) (fun L g hg hd => Nat.zero_le _) (fun g hlo hhi hF τ => ?_) ?_
    · rcases g with _ | ⟨a0, _ | ⟨a1, g⟩⟩
      all_goals first
        | (exfalso; simp only [List.length_cons, List.length_nil] at hlo hhi; omega)
        | (refine ⟨_, rfl, ?_⟩
           refine xo_load0 T_ rfl rfl rfl (by repeat (first | exact List.Mem.head _ | apply List.Mem.tail | apply List.mem_append_right)) rfl rfl ?_
           exact xo_fin rfl)
    refine DrawE.pure 0 0 rfl (.inr (by decide)) (fun L g hg hd => Nat.zero_le _) (fun g hlo hhi hF τ => ?_) ?_
    · rcases g with _ | ⟨a0, _ | ⟨a1, g⟩⟩
      all_goals first
        | (exfalso; simp only [List.length_cons, List.length_nil] at hlo hhi; omega)
        | (refine ⟨_, rfl, ?_⟩
           refine xo_mv rfl rfl rfl ?_
           exact xo_fin rfl)
    refine DrawE.pure 0 0 rfl (.inr (by decide)) (fun L g hg hd => Nat.zero_le _) (fun g hlo hhi hF τ => ?_) ?_
    · rcases g with _ | ⟨a0, _ | ⟨a1, g⟩⟩
      all_goals first
        | (exfalso; simp only [List.length_cons, List.length_nil] at hlo hhi; omega)
        | (refine ⟨_, rfl, ?_⟩
           refine xo_callB (fs := []) (cs := []) rfl rfl rfl choose_enters rfl (fun w1 hw1 => (cottonpadlaw04_choose.calls C c2 by_ 7 c7 w1 (Kd.C_below hy hw1.kx.below) hc2 e7).mono fun e w' q => ⟨q.1, q.2.below⟩) ?_
           exact xo_fin rfl)
    refine DrawE.pure 0 0 rfl (.inr (by decide)) (fun L g hg hd => Nat.zero_le _) (fun g hlo hhi hF τ => ?_) ?_
    · rcases g with _ | ⟨a0, _ | ⟨a1, g⟩⟩
      all_goals first
        | (exfalso; simp only [List.length_cons, List.length_nil] at hlo hhi; omega)
        | (refine ⟨_, rfl, ?_⟩
           refine xo_fa T_ rfl rfl rfl rfl rfl ?_
           exact xo_fin rfl)
    refine DrawE.pure 0 0 rfl (.inr (by decide)) (fun L g hg hd => Nat.zero_le _) (fun g hlo hhi hF τ => ?_) ?_
    · rcases g with _ | ⟨a0, _ | ⟨a1, g⟩⟩
      all_goals first
        | (exfalso; simp only [List.length_cons, List.length_nil] at hlo hhi; omega)
        | (refine ⟨_, rfl, ?_⟩
           refine xo_load0 T_ rfl rfl rfl (by repeat (first | exact List.Mem.head _ | apply List.Mem.tail | apply List.mem_append_right)) rfl rfl ?_
           exact xo_fin rfl)
    refine DrawE.pure 0 0 rfl (.inr (by decide)) (fun L g hg hd => Nat.zero_le _) (fun g hlo hhi hF τ => ?_) ?_
    · rcases g with _ | ⟨a0, _ | ⟨a1, g⟩⟩
      all_goals first
        | (exfalso; simp only [List.length_cons, List.length_nil] at hlo hhi; omega)
        | (refine ⟨_, rfl, ?_⟩
           refine xo_sub rfl rfl rfl (by omega) rfl ?_
           exact xo_fin rfl)
    refine DrawE.pure 0 0 rfl (.inr (by decide)) (fun L g hg hd => Nat.zero_le _) (fun g hlo hhi hF τ => ?_) ?_
    · rcases g with _ | ⟨a0, _ | ⟨a1, g⟩⟩
      all_goals first
        | (exfalso; simp only [List.length_cons, List.length_nil] at hlo hhi; omega)
        | (refine ⟨_, rfl, ?_⟩
           refine xo_add rfl rfl rfl (by omega) rfl ?_
           exact xo_fin rfl)
    refine DrawE.pure 0 0 rfl (.inr (by decide)) (fun L g hg hd => Nat.zero_le _) (fun g hlo hhi hF τ => ?_) ?_
    · rcases g with _ | ⟨a0, _ | ⟨a1, g⟩⟩
      all_goals first
        | (exfalso; simp only [List.length_cons, List.length_nil] at hlo hhi; omega)
        | (refine ⟨_, rfl, ?_⟩
           refine xo_rem rfl rfl rfl (by omega) (by omega) rfl ?_
           exact xo_fin rfl)
    refine DrawE.pure 0 0 rfl (.inr (by decide)) (fun L g hg hd => Nat.zero_le _) (fun g hlo hhi hF τ => ?_) ?_
    · rcases g with _ | ⟨a0, _ | ⟨a1, g⟩⟩
      all_goals first
        | (exfalso; simp only [List.length_cons, List.length_nil] at hlo hhi; omega)
        | (refine ⟨_, rfl, ?_⟩
           refine xo_add rfl rfl rfl (by omega) rfl ?_
           exact xo_fin rfl)
    refine DrawE.pure 0 0 rfl (.inr (by decide)) (fun L g hg hd => Nat.zero_le _) (fun g hlo hhi hF τ => ?_) ?_
    · rcases g with _ | ⟨a0, _ | ⟨a1, g⟩⟩
      all_goals first
        | (exfalso; simp only [List.length_cons, List.length_nil] at hlo hhi; omega)
        | (refine ⟨_, rfl, ?_⟩
           refine xo_fa T_ rfl rfl rfl rfl rfl ?_
           exact xo_fin rfl)
    refine DrawE.eff 0 rfl (by decide) rfl (fun j hj => hj) (fun j g a hj => ?_) (fun L g hg hd => Nat.zero_le _) (fun g hgl hF τ => ?_) ?_
    · rcases j with _ | _ | _ | _ | _ | _ | _ | _ | _ | _ | _ | _ | j
      all_goals first | rfl | (rcases g with _ | ⟨a0, _ | ⟨a1, g⟩⟩ <;> first | rfl | exact absurd hj (by decide) | exact absurd hj (by simp [List.getD]))
    · obtain rfl : g = [] := by
        rcases g with _ | ⟨a0, g⟩ <;> first | rfl | (exfalso; simp only [List.length_cons, List.length_nil] at hgl; omega)
      refine xo_store T_ rfl rfl rfl rfl (by repeat (first | exact List.Mem.head _ | apply List.Mem.tail | apply List.mem_append_right)) rfl rfl rfl rfl (by repeat (first | exact Upd.head | apply Upd.tail | apply Upd.app)) rfl ?_
      exact xo_finE ⟨0, 0, none⟩ rfl trivial
    exact DrawE.nil
  intro g hgl hF
  obtain ⟨a0, rfl⟩ : ∃ a0, g = [a0] := by
    rcases g with _ | ⟨a0, _ | ⟨a1, g⟩⟩ <;> first | exact ⟨_, rfl⟩ | (exfalso; simp only [List.length_cons, List.length_nil] at hgl; omega)
  with_reducible repeat (first | refine xq_then ?_ | refine xq_blockN ?_ | refine xq_scopeN ?_)
  with_reducible repeat refine xc_seq ?_
  refine xc_slots [(1, .slice A l.length c), (2, .slice C by_.length c2), (3, .int .u8 sec), (4, .int .i64 lv), (5, .pointer (some ⟨b5, 0, none⟩)), (11, .bool true), (12, .pointer (some ⟨b12, 0, none⟩))] ⟨rfl, rfl, rfl, rfl, rfl, rfl, rfl, trivial⟩ ?_
  clear hgl hF
  generalize c7 % (1000 - dr + 1) = z7 at *
  obtain ⟨D, hD⟩ : ∃ x, x = dr + z7 := ⟨_, rfl⟩
  rw [← hD]
  have hW : HoodOK B0 B1 F0 F1 J0 J1 G0 g1 D := by unfold HoodOK; omega
  obtain ⟨a, b, n, q1, s⟩ := First_ok hH hl 1001 lv (by omega) hlv
  obtain ⟨A', B', N', q2, S⟩ := First_ok hW hl 1001 lv (by omega) hlv
  have hsum := fun s t => wider_sums hH hW hl (by omega) (by omega) (by omega) (by omega) (by omega) (by omega) (by omega) (by omega) s t
  obtain ⟨w1, w2⟩ := wider_first hH hW hl (by omega) (by omega) (by omega) (by omega) (by omega) (by omega) (by omega) (by omega) s S
  have hN : cottonpadref04_Seconds.f b0 b1 f0 f1 j0 j1 g0 g1 dr l = some (max 0 ((l.length : Int) - g1)) := by
    unfold cottonpadref04_Seconds.f
    rw [w64 (by omega) (by omega), mx_eq]
  with_reducible repeat refine xc_seq ?_
  with_reducible refine xc_region ?_
  refine xo_loadN T_ rfl rfl rfl (by repeat (first | exact List.Mem.head _ | apply List.Mem.tail | apply List.mem_append_right)) rfl rfl ?_
  refine xo_mv rfl rfl rfl ?_
  refine xo_callB (fs := []) (cs := []) rfl rfl rfl seconds_enters rfl (fun w1 hw1 => cottonpadref04_Seconds.calls b0 b1 f0 f1 j0 j1 g0 g1 dr A c l _ w1 (Kd.C_below hr hw1.kx.below) hc hN) ?_
  refine xo_asg rfl rfl rfl ?_
  with_reducible refine xo_nil ?_
  with_reducible repeat (first | refine xq_then ?_ | refine xq_blockN ?_ | refine xq_scopeN ?_)
  with_reducible repeat refine xc_seq ?_
  with_reducible refine xc_region ?_
  refine xo_loadN T_ rfl rfl rfl (by repeat (first | exact List.Mem.head _ | apply List.Mem.tail | apply List.mem_append_right)) rfl rfl ?_
  refine xo_mv rfl rfl rfl ?_
  refine xo_mv rfl rfl rfl ?_
  refine xo_callB (fs := []) (cs := []) rfl rfl rfl burnFirst_enters rfl (fun w1 hw1 => burn_First.calls 1001 b0 b1 f0 f1 j0 j1 g0 g1 dr A c l lv a b n 0 w1 (Kd.C_below hr hw1.kx.below) hc (hglob.below hw1.kx.below) q1) ?_
  refine xo_mv rfl rfl rfl ?_
  refine xo_ext rfl rfl rfl rfl ?_
  refine xo_ext rfl rfl rfl rfl ?_
  refine xo_ext rfl rfl rfl rfl ?_
  refine xo_alloc T_ rfl rfl rfl rfl (fun b14 => ?_)
  refine xo_store T_ rfl rfl rfl rfl (by repeat (first | exact List.Mem.head _ | apply List.Mem.tail | apply List.mem_append_right)) rfl rfl rfl rfl (by repeat (first | exact Upd.head | apply Upd.tail | apply Upd.app)) rfl ?_
  refine xo_asg rfl rfl rfl ?_
  refine xo_asg rfl rfl rfl ?_
  with_reducible refine xo_nil ?_
  with_reducible repeat (first | refine xq_then ?_ | refine xq_blockN ?_ | refine xq_scopeN ?_)
  with_reducible repeat refine xc_seq ?_
  with_reducible refine xc_region ?_
  refine xo_loadN T_ rfl rfl rfl (by repeat (first | exact List.Mem.head _ | apply List.Mem.tail | apply List.mem_append_right)) rfl rfl ?_
  refine xo_mv rfl rfl rfl ?_
  refine xo_mv rfl rfl rfl ?_
  refine xo_callB (fs := []) (cs := []) rfl rfl rfl burnFirst_enters rfl (fun w1 hw1 => burn_First.calls 1001 B0 B1 F0 F1 J0 J1 G0 g1 D A c l lv A' B' N' 0 w1 (Kd.C_below hr hw1.kx.below) hc (hglob.below hw1.kx.below) q2) ?_
  refine xo_mv rfl rfl rfl ?_
  refine xo_ext rfl rfl rfl rfl ?_
  refine xo_ext rfl rfl rfl rfl ?_
  refine xo_ext rfl rfl rfl rfl ?_
  refine xo_alloc T_ rfl rfl rfl rfl (fun b17 => ?_)
  refine xo_store T_ rfl rfl rfl rfl (by repeat (first | exact List.Mem.head _ | apply List.Mem.tail | apply List.mem_append_right)) rfl rfl rfl rfl (by repeat (first | exact Upd.head | apply Upd.tail | apply Upd.app)) rfl ?_
  refine xo_asg rfl rfl rfl ?_
  refine xo_asg rfl rfl rfl ?_
  with_reducible refine xo_nil ?_
  with_reducible repeat (first | refine xq_then ?_ | refine xq_blockN ?_ | refine xq_scopeN ?_)
  have hnN : (!decide (N' = 1)) = true → (!decide (n = N')) = false := fun h => by
    rw [w1 (by simpa using h)]; exact neq00
  have hA : (!decide (n = 0)) = true → decide (a < A') = false ∧ decide (B' < b) = false := fun h => by
    have := w2 (by simpa using h)
    exact ⟨decide_eq_false (by omega), decide_eq_false (by omega)⟩
  with_reducible refine xc_seq ?_
  refine xc_cut (γ := Unit) (fun _ => True) (fun _ => [(1, .slice A l.length c), (3, .int .u8 sec), (5, .pointer (some ⟨b5, 0, none⟩)), (11, .bool true), (12, .pointer (some ⟨b12, 0, none⟩)), (13, .int .i64 (max 0 ((l.length : Int) - g1))), (194, .bool false)]) (fun _ => [(b12, true, cel [.int .i64 B0, .int .i64 B1, .int .i64 F0, .int .i64 F1, .int .i64 J0, .int .i64 J1, .int .i64 G0, .int .i64 g1, .int .i64 D] 25), (b5, true, cel [.int .i64 b0, .int .i64 b1, .int .i64 f0, .int .i64 f1, .int .i64 j0, .int .i64 j1, .int .i64 g0, .int .i64 g1, .int .i64 dr] 25)]) ?_ (fun _ _ => ?_)
  · cases hN1 : (!decide (N' = 1)) <;> cases hn0 : (!decide (n = 0))
    · with_reducible repeat refine xc_seq ?_
      with_reducible refine xc_region ?_
      refine xo_mv rfl rfl rfl ?_
      refine xo_neq rfl rfl rfl rfl ?_
      refine xo_as (i := 163) rfl (congrArg Value.bool neq00) ?_
      refine xo_mv rfl rfl rfl ?_
      first
        | refine xo_not rfl rfl ?_
        | (refine xo_mv rfl rfl rfl ?_)
      first
        | refine xo_not rfl rfl ?_
        | (refine xo_neq rfl rfl rfl rfl ?_)
      refine xo_as (i := 166) rfl (congrArg Value.bool neq00) ?_
      first | refine xo_pickT rfl rfl rfl rfl ?_ | refine xo_pickF rfl rfl rfl rfl ?_
      refine xo_mv rfl rfl rfl ?_
      first
        | refine xo_not rfl rfl ?_
        | (refine xo_mv rfl rfl rfl ?_)
      first
        | refine xo_not rfl rfl ?_
        | (refine xo_neq rfl rfl rfl rfl ?_)
      refine xo_as (i := 170) rfl (congrArg Value.bool hN1) ?_
      first
        | refine xo_not rfl rfl ?_
        | (refine xo_mv rfl rfl rfl ?_)
      first
        | refine xo_not rfl rfl ?_
        | (refine xo_mv rfl rfl rfl ?_)
      first
        | refine xo_not rfl rfl ?_
        | (refine xo_mv rfl rfl rfl ?_)
      first
        | refine xo_not rfl rfl ?_
        | (refine xo_neq rfl rfl rfl rfl ?_)
      first
        | refine xo_not rfl rfl ?_
        | (first | refine xo_pickT rfl rfl rfl rfl ?_ | refine xo_pickF rfl rfl rfl rfl ?_)
      first | refine xo_pickT rfl rfl rfl rfl ?_ | refine xo_pickF rfl rfl rfl rfl ?_
      refine xo_mv rfl rfl rfl ?_
      first
        | refine xo_not rfl rfl ?_
        | (refine xo_mv rfl rfl rfl ?_)
      first
        | refine xo_not rfl rfl ?_
        | (refine xo_neq rfl rfl rfl rfl ?_)
      refine xo_as (i := 179) rfl (congrArg Value.bool hn0) ?_
      first
        | refine xo_not rfl rfl ?_
        | (refine xo_mv rfl rfl rfl ?_)
      first
        | refine xo_not rfl rfl ?_
        | (refine xo_fa T_ rfl rfl rfl rfl rfl ?_)
      first
        | refine xo_not rfl rfl ?_
        | (refine xo_load0 T_ rfl rfl rfl (by repeat (first | exact List.Mem.head _ | apply List.Mem.tail | apply List.mem_append_right)) rfl rfl ?_)
      first
        | refine xo_not rfl rfl ?_
        | (refine xo_fa T_ rfl rfl rfl rfl rfl ?_)
      first
        | refine xo_not rfl rfl ?_
        | (refine xo_load0 T_ rfl rfl rfl (by repeat (first | exact List.Mem.head _ | apply List.Mem.tail | apply List.mem_append_right)) rfl rfl ?_)
      first
        | refine xo_not rfl rfl ?_
        | (refine xo_gtr rfl rfl rfl rfl ?_)
      first
        | refine xo_not rfl rfl ?_
        | (refine xo_mv rfl rfl rfl ?_)
      first
        | refine xo_not rfl rfl ?_
        | (refine xo_fa T_ rfl rfl rfl rfl rfl ?_)
      first
        | refine xo_not rfl rfl ?_
        | (refine xo_load0 T_ rfl rfl rfl (by repeat (first | exact List.Mem.head _ | apply List.Mem.tail | apply List.mem_append_right)) rfl rfl ?_)
      first
        | refine xo_not rfl rfl ?_
        | (refine xo_fa T_ rfl rfl rfl rfl rfl ?_)
      first
        | refine xo_not rfl rfl ?_
        | (refine xo_load0 T_ rfl rfl rfl (by repeat (first | exact List.Mem.head _ | apply List.Mem.tail | apply List.mem_append_right)) rfl rfl ?_)
      first
        | refine xo_not rfl rfl ?_
        | (refine xo_lss rfl rfl rfl rfl ?_)
      first
        | refine xo_not rfl rfl ?_
        | (first | refine xo_pickT rfl rfl rfl rfl ?_ | refine xo_pickF rfl rfl rfl rfl ?_)
      first
        | refine xo_not rfl rfl ?_
        | (first | refine xo_pickT rfl rfl rfl rfl ?_ | refine xo_pickF rfl rfl rfl rfl ?_)
      first | refine xo_pickT rfl rfl rfl rfl ?_ | refine xo_pickF rfl rfl rfl rfl ?_
      with_reducible refine xo_nil ?_
      with_reducible repeat (first | refine xq_then ?_ | refine xq_blockN ?_ | refine xq_scopeN ?_)
      exact xq_meet _ _ _ () trivial ⟨rfl, rfl, rfl, rfl, rfl, rfl, rfl, trivial⟩ (by repeat (first | exact List.Sublist.refl _ | apply List.Sublist.cons_cons | apply List.Sublist.cons | exact List.nil_sublist _))
    · with_reducible repeat refine xc_seq ?_
      with_reducible refine xc_region ?_
      refine xo_mv rfl rfl rfl ?_
      refine xo_neq rfl rfl rfl rfl ?_
      refine xo_as (i := 163) rfl (congrArg Value.bool neq00) ?_
      refine xo_mv rfl rfl rfl ?_
      first
        | refine xo_not rfl rfl ?_
        | (refine xo_mv rfl rfl rfl ?_)
      first
        | refine xo_not rfl rfl ?_
        | (refine xo_neq rfl rfl rfl rfl ?_)
      refine xo_as (i := 166) rfl (congrArg Value.bool neq00) ?_
      first | refine xo_pickT rfl rfl rfl rfl ?_ | refine xo_pickF rfl rfl rfl rfl ?_
      refine xo_mv rfl rfl rfl ?_
      first
        | refine xo_not rfl rfl ?_
        | (refine xo_mv rfl rfl rfl ?_)
      first
        | refine xo_not rfl rfl ?_
        | (refine xo_neq rfl rfl rfl rfl ?_)
      refine xo_as (i := 170) rfl (congrArg Value.bool hN1) ?_
      first
        | refine xo_not rfl rfl ?_
        | (refine xo_mv rfl rfl rfl ?_)
      first
        | refine xo_not rfl rfl ?_
        | (refine xo_mv rfl rfl rfl ?_)
      first
        | refine xo_not rfl rfl ?_
        | (refine xo_mv rfl rfl rfl ?_)
      first
        | refine xo_not rfl rfl ?_
        | (refine xo_neq rfl rfl rfl rfl ?_)
      first
        | refine xo_not rfl rfl ?_
        | (first | refine xo_pickT rfl rfl rfl rfl ?_ | refine xo_pickF rfl rfl rfl rfl ?_)
      first | refine xo_pickT rfl rfl rfl rfl ?_ | refine xo_pickF rfl rfl rfl rfl ?_
      refine xo_mv rfl rfl rfl ?_
      first
        | refine xo_not rfl rfl ?_
        | (refine xo_mv rfl rfl rfl ?_)
      first
        | refine xo_not rfl rfl ?_
        | (refine xo_neq rfl rfl rfl rfl ?_)
      refine xo_as (i := 179) rfl (congrArg Value.bool hn0) ?_
      first
        | refine xo_not rfl rfl ?_
        | (refine xo_mv rfl rfl rfl ?_)
      first
        | refine xo_not rfl rfl ?_
        | (refine xo_fa T_ rfl rfl rfl rfl rfl ?_)
      first
        | refine xo_not rfl rfl ?_
        | (refine xo_load0 T_ rfl rfl rfl (by repeat (first | exact List.Mem.head _ | apply List.Mem.tail | apply List.mem_append_right)) rfl rfl ?_)
      first
        | refine xo_not rfl rfl ?_
        | (refine xo_fa T_ rfl rfl rfl rfl rfl ?_)
      first
        | refine xo_not rfl rfl ?_
        | (refine xo_load0 T_ rfl rfl rfl (by repeat (first | exact List.Mem.head _ | apply List.Mem.tail | apply List.mem_append_right)) rfl rfl ?_)
      first
        | refine xo_not rfl rfl ?_
        | (refine xo_gtr rfl rfl rfl rfl ?_)
      refine xo_as (i := 185) rfl (congrArg Value.bool (hA hn0).1) ?_
      first
        | refine xo_not rfl rfl ?_
        | (refine xo_mv rfl rfl rfl ?_)
      first
        | refine xo_not rfl rfl ?_
        | (refine xo_fa T_ rfl rfl rfl rfl rfl ?_)
      first
        | refine xo_not rfl rfl ?_
        | (refine xo_load0 T_ rfl rfl rfl (by repeat (first | exact List.Mem.head _ | apply List.Mem.tail | apply List.mem_append_right)) rfl rfl ?_)
      first
        | refine xo_not rfl rfl ?_
        | (refine xo_fa T_ rfl rfl rfl rfl rfl ?_)
      first
        | refine xo_not rfl rfl ?_
        | (refine xo_load0 T_ rfl rfl rfl (by repeat (first | exact List.Mem.head _ | apply List.Mem.tail | apply List.mem_append_right)) rfl rfl ?_)
      first
        | refine xo_not rfl rfl ?_
        | (refine xo_lss rfl rfl rfl rfl ?_)
      refine xo_as (i := 191) rfl (congrArg Value.bool (hA hn0).2) ?_
      first
        | refine xo_not rfl rfl ?_
        | (first | refine xo_pickT rfl rfl rfl rfl ?_ | refine xo_pickF rfl rfl rfl rfl ?_)
      first
        | refine xo_not rfl rfl ?_
        | (first | refine xo_pickT rfl rfl rfl rfl ?_ | refine xo_pickF rfl rfl rfl rfl ?_)
      first | refine xo_pickT rfl rfl rfl rfl ?_ | refine xo_pickF rfl rfl rfl rfl ?_
      with_reducible refine xo_nil ?_
      with_reducible repeat (first | refine xq_then ?_ | refine xq_blockN ?_ | refine xq_scopeN ?_)
      exact xq_meet _ _ _ () trivial ⟨rfl, rfl, rfl, rfl, rfl, rfl, rfl, trivial⟩ (by repeat (first | exact List.Sublist.refl _ | apply List.Sublist.cons_cons | apply List.Sublist.cons | exact List.nil_sublist _))
    · with_reducible repeat refine xc_seq ?_
      with_reducible refine xc_region ?_
      refine xo_mv rfl rfl rfl ?_
      refine xo_neq rfl rfl rfl rfl ?_
      refine xo_as (i := 163) rfl (congrArg Value.bool neq00) ?_
      refine xo_mv rfl rfl rfl ?_
      first
        | refine xo_not rfl rfl ?_
        | (refine xo_mv rfl rfl rfl ?_)
      first
        | refine xo_not rfl rfl ?_
        | (refine xo_neq rfl rfl rfl rfl ?_)
      refine xo_as (i := 166) rfl (congrArg Value.bool neq00) ?_
      first | refine xo_pickT rfl rfl rfl rfl ?_ | refine xo_pickF rfl rfl rfl rfl ?_
      refine xo_mv rfl rfl rfl ?_
      first
        | refine xo_not rfl rfl ?_
        | (refine xo_mv rfl rfl rfl ?_)
      first
        | refine xo_not rfl rfl ?_
        | (refine xo_neq rfl rfl rfl rfl ?_)
      refine xo_as (i := 170) rfl (congrArg Value.bool hN1) ?_
      first
        | refine xo_not rfl rfl ?_
        | (refine xo_mv rfl rfl rfl ?_)
      first
        | refine xo_not rfl rfl ?_
        | (refine xo_mv rfl rfl rfl ?_)
      first
        | refine xo_not rfl rfl ?_
        | (refine xo_mv rfl rfl rfl ?_)
      first
        | refine xo_not rfl rfl ?_
        | (refine xo_neq rfl rfl rfl rfl ?_)
      refine xo_as (i := 174) rfl (congrArg Value.bool (hnN hN1)) ?_
      first
        | refine xo_not rfl rfl ?_
        | (first | refine xo_pickT rfl rfl rfl rfl ?_ | refine xo_pickF rfl rfl rfl rfl ?_)
      first | refine xo_pickT rfl rfl rfl rfl ?_ | refine xo_pickF rfl rfl rfl rfl ?_
      refine xo_mv rfl rfl rfl ?_
      first
        | refine xo_not rfl rfl ?_
        | (refine xo_mv rfl rfl rfl ?_)
      first
        | refine xo_not rfl rfl ?_
        | (refine xo_neq rfl rfl rfl rfl ?_)
      refine xo_as (i := 179) rfl (congrArg Value.bool hn0) ?_
      first
        | refine xo_not rfl rfl ?_
        | (refine xo_mv rfl rfl rfl ?_)
      first
        | refine xo_not rfl rfl ?_
        | (refine xo_fa T_ rfl rfl rfl rfl rfl ?_)
      first
        | refine xo_not rfl rfl ?_
        | (refine xo_load0 T_ rfl rfl rfl (by repeat (first | exact List.Mem.head _ | apply List.Mem.tail | apply List.mem_append_right)) rfl rfl ?_)
      first
        | refine xo_not rfl rfl ?_
        | (refine xo_fa T_ rfl rfl rfl rfl rfl ?_)
      first
        | refine xo_not rfl rfl ?_
        | (refine xo_load0 T_ rfl rfl rfl (by repeat (first | exact List.Mem.head _ | apply List.Mem.tail | apply List.mem_append_right)) rfl rfl ?_)
      first
        | refine xo_not rfl rfl ?_
        | (refine xo_gtr rfl rfl rfl rfl ?_)
      first
        | refine xo_not rfl rfl ?_
        | (refine xo_mv rfl rfl rfl ?_)
      first
        | refine xo_not rfl rfl ?_
        | (refine xo_fa T_ rfl rfl rfl rfl rfl ?_)
      first
        | refine xo_not rfl rfl ?_
        | (refine xo_load0 T_ rfl rfl rfl (by repeat (first | exact List.Mem.head _ | apply List.Mem.tail | apply List.mem_append_right)) rfl rfl ?_)
      first
        | refine xo_not rfl rfl ?_
        | (refine xo_fa T_ rfl rfl rfl rfl rfl ?_)
      first
        | refine xo_not rfl rfl ?_
        | (refine xo_load0 T_ rfl rfl rfl (by repeat (first | exact List.Mem.head _ | apply List.Mem.tail | apply List.mem_append_right)) rfl rfl ?_)
      first
        | refine xo_not rfl rfl ?_
        | (refine xo_lss rfl rfl rfl rfl ?_)
      first
        | refine xo_not rfl rfl ?_
        | (first | refine xo_pickT rfl rfl rfl rfl ?_ | refine xo_pickF rfl rfl rfl rfl ?_)
      first
        | refine xo_not rfl rfl ?_
        | (first | refine xo_pickT rfl rfl rfl rfl ?_ | refine xo_pickF rfl rfl rfl rfl ?_)
      first | refine xo_pickT rfl rfl rfl rfl ?_ | refine xo_pickF rfl rfl rfl rfl ?_
      with_reducible refine xo_nil ?_
      with_reducible repeat (first | refine xq_then ?_ | refine xq_blockN ?_ | refine xq_scopeN ?_)
      exact xq_meet _ _ _ () trivial ⟨rfl, rfl, rfl, rfl, rfl, rfl, rfl, trivial⟩ (by repeat (first | exact List.Sublist.refl _ | apply List.Sublist.cons_cons | apply List.Sublist.cons | exact List.nil_sublist _))
    · with_reducible repeat refine xc_seq ?_
      with_reducible refine xc_region ?_
      refine xo_mv rfl rfl rfl ?_
      refine xo_neq rfl rfl rfl rfl ?_
      refine xo_as (i := 163) rfl (congrArg Value.bool neq00) ?_
      refine xo_mv rfl rfl rfl ?_
      first
        | refine xo_not rfl rfl ?_
        | (refine xo_mv rfl rfl rfl ?_)
      first
        | refine xo_not rfl rfl ?_
        | (refine xo_neq rfl rfl rfl rfl ?_)
      refine xo_as (i := 166) rfl (congrArg Value.bool neq00) ?_
      first | refine xo_pickT rfl rfl rfl rfl ?_ | refine xo_pickF rfl rfl rfl rfl ?_
      refine xo_mv rfl rfl rfl ?_
      first
        | refine xo_not rfl rfl ?_
        | (refine xo_mv rfl rfl rfl ?_)
      first
        | refine xo_not rfl rfl ?_
        | (refine xo_neq rfl rfl rfl rfl ?_)
      refine xo_as (i := 170) rfl (congrArg Value.bool hN1) ?_
      first
        | refine xo_not rfl rfl ?_
        | (refine xo_mv rfl rfl rfl ?_)
      first
        | refine xo_not rfl rfl ?_
        | (refine xo_mv rfl rfl rfl ?_)
      first
        | refine xo_not rfl rfl ?_
        | (refine xo_mv rfl rfl rfl ?_)
      first
        | refine xo_not rfl rfl ?_
        | (refine xo_neq rfl rfl rfl rfl ?_)
      refine xo_as (i := 174) rfl (congrArg Value.bool (hnN hN1)) ?_
      first
        | refine xo_not rfl rfl ?_
        | (first | refine xo_pickT rfl rfl rfl rfl ?_ | refine xo_pickF rfl rfl rfl rfl ?_)
      first | refine xo_pickT rfl rfl rfl rfl ?_ | refine xo_pickF rfl rfl rfl rfl ?_
      refine xo_mv rfl rfl rfl ?_
      first
        | refine xo_not rfl rfl ?_
        | (refine xo_mv rfl rfl rfl ?_)
      first
        | refine xo_not rfl rfl ?_
        | (refine xo_neq rfl rfl rfl rfl ?_)
      refine xo_as (i := 179) rfl (congrArg Value.bool hn0) ?_
      first
        | refine xo_not rfl rfl ?_
        | (refine xo_mv rfl rfl rfl ?_)
      first
        | refine xo_not rfl rfl ?_
        | (refine xo_fa T_ rfl rfl rfl rfl rfl ?_)
      first
        | refine xo_not rfl rfl ?_
        | (refine xo_load0 T_ rfl rfl rfl (by repeat (first | exact List.Mem.head _ | apply List.Mem.tail | apply List.mem_append_right)) rfl rfl ?_)
      first
        | refine xo_not rfl rfl ?_
        | (refine xo_fa T_ rfl rfl rfl rfl rfl ?_)
      first
        | refine xo_not rfl rfl ?_
        | (refine xo_load0 T_ rfl rfl rfl (by repeat (first | exact List.Mem.head _ | apply List.Mem.tail | apply List.mem_append_right)) rfl rfl ?_)
      first
        | refine xo_not rfl rfl ?_
        | (refine xo_gtr rfl rfl rfl rfl ?_)
      refine xo_as (i := 185) rfl (congrArg Value.bool (hA hn0).1) ?_
      first
        | refine xo_not rfl rfl ?_
        | (refine xo_mv rfl rfl rfl ?_)
      first
        | refine xo_not rfl rfl ?_
        | (refine xo_fa T_ rfl rfl rfl rfl rfl ?_)
      first
        | refine xo_not rfl rfl ?_
        | (refine xo_load0 T_ rfl rfl rfl (by repeat (first | exact List.Mem.head _ | apply List.Mem.tail | apply List.mem_append_right)) rfl rfl ?_)
      first
        | refine xo_not rfl rfl ?_
        | (refine xo_fa T_ rfl rfl rfl rfl rfl ?_)
      first
        | refine xo_not rfl rfl ?_
        | (refine xo_load0 T_ rfl rfl rfl (by repeat (first | exact List.Mem.head _ | apply List.Mem.tail | apply List.mem_append_right)) rfl rfl ?_)
      first
        | refine xo_not rfl rfl ?_
        | (refine xo_lss rfl rfl rfl rfl ?_)
      refine xo_as (i := 191) rfl (congrArg Value.bool (hA hn0).2) ?_
      first
        | refine xo_not rfl rfl ?_
        | (first | refine xo_pickT rfl rfl rfl rfl ?_ | refine xo_pickF rfl rfl rfl rfl ?_)
      first
        | refine xo_not rfl rfl ?_
        | (first | refine xo_pickT rfl rfl rfl rfl ?_ | refine xo_pickF rfl rfl rfl rfl ?_)
      first | refine xo_pickT rfl rfl rfl rfl ?_ | refine xo_pickF rfl rfl rfl rfl ?_
      with_reducible refine xo_nil ?_
      with_reducible repeat (first | refine xq_then ?_ | refine xq_blockN ?_ | refine xq_scopeN ?_)
      exact xq_meet _ _ _ () trivial ⟨rfl, rfl, rfl, rfl, rfl, rfl, rfl, trivial⟩ (by repeat (first | exact List.Sublist.refl _ | apply List.Sublist.cons_cons | apply List.Sublist.cons | exact List.nil_sublist _))
  with_reducible repeat refine xc_seq ?_
  refine xc_condF rfl ?_
  with_reducible refine xc_skip ?_
  with_reducible repeat (first | refine xq_then ?_ | refine xq_blockN ?_ | refine xq_scopeN ?_)
  have hsc : max 0 ((l.length : Int) - g1) ≤ 120 ∧ 0 ≤ max 0 ((l.length : Int) - g1) := by omega
  have hHt := fun k h0 h1 => Heat_ok hH hl 1001 k (by omega) h0 h1
  have hHt2 := fun k h0 h1 => Heat_ok hW hl 1001 k (by omega) h0 h1
  have hSm := fun t h0 h1 => Sum_ok hH hl 1001 0 t (by omega) (Int.le_refl _) h0 h1
  have hSm2 := fun t h0 h1 => Sum_ok hW hl 1001 0 t (by omega) (Int.le_refl _) h0 h1
  generalize max 0 ((l.length : Int) - g1) = sc at *
  cases hz : decide (sc = 0)
  rotate_left
  · with_reducible repeat refine xc_seq ?_
    with_reducible refine xc_region ?_
    refine xo_mv rfl rfl rfl ?_
    refine xo_eql rfl rfl rfl rfl ?_
    refine xo_as (i := 196) rfl (congrArg Value.bool hz) ?_
    with_reducible refine xo_nil ?_
    with_reducible repeat (first | refine xq_then ?_ | refine xq_blockN ?_ | refine xq_scopeN ?_)
    with_reducible repeat refine xc_seq ?_
    refine xc_condT rfl ?_
    with_reducible repeat refine xc_seq ?_
    with_reducible refine xc_region ?_
    refine xo_mv rfl rfl rfl ?_
    refine xo_asg rfl rfl rfl ?_
    with_reducible refine xo_nil ?_
    with_reducible repeat (first | refine xq_then ?_ | refine xq_blockN ?_ | refine xq_scopeN ?_)
    with_reducible repeat refine xc_seq ?_
    with_reducible refine xc_ret ?_
    with_reducible repeat (first | refine xq_thenR ?_ | refine xq_blockR ?_ | refine xq_scopeR ?_)
    exact xq_ret1 rfl rfl fun w' hw => ⟨rfl, hw.kx.below⟩
  have hz' := of_decide_eq_false hz
  with_reducible repeat refine xc_seq ?_
  with_reducible refine xc_region ?_
  refine xo_mv rfl rfl rfl ?_
  refine xo_eql rfl rfl rfl rfl ?_
  refine xo_as (i := 196) rfl (congrArg Value.bool hz) ?_
  with_reducible refine xo_nil ?_
  with_reducible repeat (first | refine xq_then ?_ | refine xq_blockN ?_ | refine xq_scopeN ?_)
  with_reducible repeat refine xc_seq ?_
  refine xc_condF rfl ?_
  with_reducible refine xc_skip ?_
  with_reducible repeat (first | refine xq_then ?_ | refine xq_blockN ?_ | refine xq_scopeN ?_)
  have p0 := Int.emod_nonneg sec hz'
  have p1 := Int.emod_lt_of_pos sec (show 0 < sc by omega)
  with_reducible repeat refine xc_seq ?_
  with_reducible refine xc_region ?_
  refine xo_mv rfl rfl rfl ?_
  refine xo_conv T_ rfl rfl rfl rfl (IntWalk.i64_in _ ⟨by omega, by omega⟩) rfl ?_
  refine xo_mv rfl rfl rfl ?_
  refine xo_rem rfl rfl rfl (by omega) (by omega) rfl ?_
  refine xo_asg rfl rfl rfl ?_
  with_reducible refine xo_nil ?_
  with_reducible repeat (first | refine xq_then ?_ | refine xq_blockN ?_ | refine xq_scopeN ?_)
  generalize sec % sc = z at *
  have h1 := hsum z (z + 1)
  have h2 := hsum 0 sc
  have v1 := hHt z p0 p1
  have v2 := hHt2 z p0 p1
  have v3 := hSm sc hsc.2 (Int.le_refl _)
  have v4 := hSm2 sc hsc.2 (Int.le_refl _)
  obtain ⟨⟨u1, u2⟩, hu⟩ : ∃ u : Int × Int, u = sumS b0 b1 f0 f1 j0 j1 g0 g1 dr l z (z + 1) := ⟨_, rfl⟩
  obtain ⟨⟨u3, u4⟩, hu2⟩ : ∃ u : Int × Int, u = sumS B0 B1 F0 F1 J0 J1 G0 g1 D l z (z + 1) := ⟨_, rfl⟩
  obtain ⟨⟨u5, u6⟩, hu3⟩ : ∃ u : Int × Int, u = sumS b0 b1 f0 f1 j0 j1 g0 g1 dr l 0 sc := ⟨_, rfl⟩
  obtain ⟨⟨u7, u8⟩, hu4⟩ : ∃ u : Int × Int, u = sumS B0 B1 F0 F1 J0 J1 G0 g1 D l 0 sc := ⟨_, rfl⟩
  rw [← hu, ← hu2] at h1
  rw [← hu3, ← hu4] at h2
  rw [← hu] at v1
  rw [← hu2] at v2
  rw [← hu3] at v3
  rw [← hu4] at v4
  simp only at h1 h2 v1 v2 v3 v4
  clear hu hu2 hu3 hu4
  with_reducible repeat refine xc_seq ?_
  with_reducible refine xc_region ?_
  refine xo_loadN T_ rfl rfl rfl (by repeat (first | exact List.Mem.head _ | apply List.Mem.tail | apply List.mem_append_right)) rfl rfl ?_
  refine xo_mv rfl rfl rfl ?_
  refine xo_mv rfl rfl rfl ?_
  refine xo_callB (fs := []) (cs := []) rfl rfl rfl burnHeat_enters rfl (fun w1 hw1 => burn_Heat.calls 1001 b0 b1 f0 f1 j0 j1 g0 g1 dr A c l z u1 u2 0 w1 (Kd.C_below hr hw1.kx.below) hc (hglob.below hw1.kx.below) v1) ?_
  refine xo_mv rfl rfl rfl ?_
  refine xo_ext rfl rfl rfl rfl ?_
  refine xo_ext rfl rfl rfl rfl ?_
  refine xo_alloc T_ rfl rfl rfl rfl (fun b21 => ?_)
  refine xo_store T_ rfl rfl rfl rfl (by repeat (first | exact List.Mem.head _ | apply List.Mem.tail | apply List.mem_append_right)) rfl rfl rfl rfl (by repeat (first | exact Upd.head | apply Upd.tail | apply Upd.app)) rfl ?_
  refine xo_asg rfl rfl rfl ?_
  with_reducible refine xo_nil ?_
  with_reducible repeat (first | refine xq_then ?_ | refine xq_blockN ?_ | refine xq_scopeN ?_)
  with_reducible repeat refine xc_seq ?_
  with_reducible refine xc_region ?_
  refine xo_loadN T_ rfl rfl rfl (by repeat (first | exact List.Mem.head _ | apply List.Mem.tail | apply List.mem_append_right)) rfl rfl ?_
  refine xo_mv rfl rfl rfl ?_
  refine xo_mv rfl rfl rfl ?_
  refine xo_callB (fs := []) (cs := []) rfl rfl rfl burnHeat_enters rfl (fun w1 hw1 => burn_Heat.calls 1001 B0 B1 F0 F1 J0 J1 G0 g1 D A c l z u3 u4 0 w1 (Kd.C_below hr hw1.kx.below) hc (hglob.below hw1.kx.below) v2) ?_
  refine xo_mv rfl rfl rfl ?_
  refine xo_ext rfl rfl rfl rfl ?_
  refine xo_ext rfl rfl rfl rfl ?_
  refine xo_alloc T_ rfl rfl rfl rfl (fun b23 => ?_)
  refine xo_store T_ rfl rfl rfl rfl (by repeat (first | exact List.Mem.head _ | apply List.Mem.tail | apply List.mem_append_right)) rfl rfl rfl rfl (by repeat (first | exact Upd.head | apply Upd.tail | apply Upd.app)) rfl ?_
  refine xo_asg rfl rfl rfl ?_
  with_reducible refine xo_nil ?_
  with_reducible repeat (first | refine xq_then ?_ | refine xq_blockN ?_ | refine xq_scopeN ?_)
  with_reducible repeat refine xc_seq ?_
  with_reducible refine xc_region ?_
  refine xo_loadN T_ rfl rfl rfl (by repeat (first | exact List.Mem.head _ | apply List.Mem.tail | apply List.mem_append_right)) rfl rfl ?_
  refine xo_mv rfl rfl rfl ?_
  refine xo_mv rfl rfl rfl ?_
  refine xo_callB (fs := []) (cs := []) rfl rfl rfl burnSum_enters rfl (fun w1 hw1 => burn_Sum.calls 1001 b0 b1 f0 f1 j0 j1 g0 g1 dr A c l 0 sc u5 u6 0 w1 (Kd.C_below hr hw1.kx.below) hc (hglob.below hw1.kx.below) v3) ?_
  refine xo_mv rfl rfl rfl ?_
  refine xo_ext rfl rfl rfl rfl ?_
  refine xo_ext rfl rfl rfl rfl ?_
  refine xo_alloc T_ rfl rfl rfl rfl (fun b25 => ?_)
  refine xo_store T_ rfl rfl rfl rfl (by repeat (first | exact List.Mem.head _ | apply List.Mem.tail | apply List.mem_append_right)) rfl rfl rfl rfl (by repeat (first | exact Upd.head | apply Upd.tail | apply Upd.app)) rfl ?_
  refine xo_asg rfl rfl rfl ?_
  with_reducible refine xo_nil ?_
  with_reducible repeat (first | refine xq_then ?_ | refine xq_blockN ?_ | refine xq_scopeN ?_)
  with_reducible repeat refine xc_seq ?_
  with_reducible refine xc_region ?_
  refine xo_loadN T_ rfl rfl rfl (by repeat (first | exact List.Mem.head _ | apply List.Mem.tail | apply List.mem_append_right)) rfl rfl ?_
  refine xo_mv rfl rfl rfl ?_
  refine xo_mv rfl rfl rfl ?_
  refine xo_callB (fs := []) (cs := []) rfl rfl rfl burnSum_enters rfl (fun w1 hw1 => burn_Sum.calls 1001 B0 B1 F0 F1 J0 J1 G0 g1 D A c l 0 sc u7 u8 0 w1 (Kd.C_below hr hw1.kx.below) hc (hglob.below hw1.kx.below) v4) ?_
  refine xo_mv rfl rfl rfl ?_
  refine xo_ext rfl rfl rfl rfl ?_
  refine xo_ext rfl rfl rfl rfl ?_
  refine xo_alloc T_ rfl rfl rfl rfl (fun b27 => ?_)
  refine xo_store T_ rfl rfl rfl rfl (by repeat (first | exact List.Mem.head _ | apply List.Mem.tail | apply List.mem_append_right)) rfl rfl rfl rfl (by repeat (first | exact Upd.head | apply Upd.tail | apply Upd.app)) rfl ?_
  refine xo_asg rfl rfl rfl ?_
  with_reducible refine xo_nil ?_
  with_reducible repeat (first | refine xq_then ?_ | refine xq_blockN ?_ | refine xq_scopeN ?_)
  with_reducible repeat refine xc_seq ?_
  with_reducible refine xc_region ?_
  refine xo_mv rfl rfl rfl ?_
  refine xo_mv rfl rfl rfl ?_
  first
    | refine xo_not rfl rfl ?_
    | (refine xo_mv rfl rfl rfl ?_)
  first
    | refine xo_not rfl rfl ?_
    | (refine xo_eql rfl rfl rfl rfl ?_)
  refine xo_as (i := 233) rfl (congrArg Value.bool eq00) ?_
  first | refine xo_pickT rfl rfl rfl rfl ?_ | refine xo_pickF rfl rfl rfl rfl ?_
  refine xo_mv rfl rfl rfl ?_
  first
    | refine xo_not rfl rfl ?_
    | (refine xo_mv rfl rfl rfl ?_)
  first
    | refine xo_not rfl rfl ?_
    | (refine xo_eql rfl rfl rfl rfl ?_)
  refine xo_as (i := 237) rfl (congrArg Value.bool eq00) ?_
  first | refine xo_pickT rfl rfl rfl rfl ?_ | refine xo_pickF rfl rfl rfl rfl ?_
  refine xo_mv rfl rfl rfl ?_
  first
    | refine xo_not rfl rfl ?_
    | (refine xo_mv rfl rfl rfl ?_)
  first
    | refine xo_not rfl rfl ?_
    | (refine xo_eql rfl rfl rfl rfl ?_)
  refine xo_as (i := 241) rfl (congrArg Value.bool eq00) ?_
  first | refine xo_pickT rfl rfl rfl rfl ?_ | refine xo_pickF rfl rfl rfl rfl ?_
  refine xo_mv rfl rfl rfl ?_
  first
    | refine xo_not rfl rfl ?_
    | (refine xo_mv rfl rfl rfl ?_)
  first
    | refine xo_not rfl rfl ?_
    | (refine xo_eql rfl rfl rfl rfl ?_)
  refine xo_as (i := 245) rfl (congrArg Value.bool eq00) ?_
  first | refine xo_pickT rfl rfl rfl rfl ?_ | refine xo_pickF rfl rfl rfl rfl ?_
  refine xo_mv rfl rfl rfl ?_
  first
    | refine xo_not rfl rfl ?_
    | (refine xo_fa T_ rfl rfl rfl rfl rfl ?_)
  first
    | refine xo_not rfl rfl ?_
    | (refine xo_load0 T_ rfl rfl rfl (by repeat (first | exact List.Mem.head _ | apply List.Mem.tail | apply List.mem_append_right)) rfl rfl ?_)
  first
    | refine xo_not rfl rfl ?_
    | (refine xo_fa T_ rfl rfl rfl rfl rfl ?_)
  first
    | refine xo_not rfl rfl ?_
    | (refine xo_load0 T_ rfl rfl rfl (by repeat (first | exact List.Mem.head _ | apply List.Mem.tail | apply List.mem_append_right)) rfl rfl ?_)
  first
    | refine xo_not rfl rfl ?_
    | (refine xo_leq rfl rfl rfl rfl ?_)
  refine xo_as (i := 252) rfl (congrArg Value.bool (decide_eq_true h1.1)) ?_
  first | refine xo_pickT rfl rfl rfl rfl ?_ | refine xo_pickF rfl rfl rfl rfl ?_
  refine xo_mv rfl rfl rfl ?_
  first
    | refine xo_not rfl rfl ?_
    | (refine xo_fa T_ rfl rfl rfl rfl rfl ?_)
  first
    | refine xo_not rfl rfl ?_
    | (refine xo_load0 T_ rfl rfl rfl (by repeat (first | exact List.Mem.head _ | apply List.Mem.tail | apply List.mem_append_right)) rfl rfl ?_)
  first
    | refine xo_not rfl rfl ?_
    | (refine xo_fa T_ rfl rfl rfl rfl rfl ?_)
  first
    | refine xo_not rfl rfl ?_
    | (refine xo_load0 T_ rfl rfl rfl (by repeat (first | exact List.Mem.head _ | apply List.Mem.tail | apply List.mem_append_right)) rfl rfl ?_)
  first
    | refine xo_not rfl rfl ?_
    | (refine xo_geq rfl rfl rfl rfl ?_)
  refine xo_as (i := 259) rfl (congrArg Value.bool (decide_eq_true h1.2)) ?_
  first | refine xo_pickT rfl rfl rfl rfl ?_ | refine xo_pickF rfl rfl rfl rfl ?_
  refine xo_mv rfl rfl rfl ?_
  first
    | refine xo_not rfl rfl ?_
    | (refine xo_fa T_ rfl rfl rfl rfl rfl ?_)
  first
    | refine xo_not rfl rfl ?_
    | (refine xo_load0 T_ rfl rfl rfl (by repeat (first | exact List.Mem.head _ | apply List.Mem.tail | apply List.mem_append_right)) rfl rfl ?_)
  first
    | refine xo_not rfl rfl ?_
    | (refine xo_fa T_ rfl rfl rfl rfl rfl ?_)
  first
    | refine xo_not rfl rfl ?_
    | (refine xo_load0 T_ rfl rfl rfl (by repeat (first | exact List.Mem.head _ | apply List.Mem.tail | apply List.mem_append_right)) rfl rfl ?_)
  first
    | refine xo_not rfl rfl ?_
    | (refine xo_leq rfl rfl rfl rfl ?_)
  refine xo_as (i := 266) rfl (congrArg Value.bool (decide_eq_true h2.1)) ?_
  first | refine xo_pickT rfl rfl rfl rfl ?_ | refine xo_pickF rfl rfl rfl rfl ?_
  refine xo_mv rfl rfl rfl ?_
  first
    | refine xo_not rfl rfl ?_
    | (refine xo_fa T_ rfl rfl rfl rfl rfl ?_)
  first
    | refine xo_not rfl rfl ?_
    | (refine xo_load0 T_ rfl rfl rfl (by repeat (first | exact List.Mem.head _ | apply List.Mem.tail | apply List.mem_append_right)) rfl rfl ?_)
  first
    | refine xo_not rfl rfl ?_
    | (refine xo_fa T_ rfl rfl rfl rfl rfl ?_)
  first
    | refine xo_not rfl rfl ?_
    | (refine xo_load0 T_ rfl rfl rfl (by repeat (first | exact List.Mem.head _ | apply List.Mem.tail | apply List.mem_append_right)) rfl rfl ?_)
  first
    | refine xo_not rfl rfl ?_
    | (refine xo_geq rfl rfl rfl rfl ?_)
  refine xo_as (i := 273) rfl (congrArg Value.bool (decide_eq_true h2.2)) ?_
  first | refine xo_pickT rfl rfl rfl rfl ?_ | refine xo_pickF rfl rfl rfl rfl ?_
  refine xo_asg rfl rfl rfl ?_
  with_reducible refine xo_nil ?_
  with_reducible repeat (first | refine xq_then ?_ | refine xq_blockN ?_ | refine xq_scopeN ?_)
  with_reducible repeat refine xc_seq ?_
  with_reducible refine xc_ret ?_
  with_reducible repeat (first | refine xq_thenR ?_ | refine xq_blockR ?_ | refine xq_scopeR ?_)
  exact xq_ret1 rfl rfl fun w' hw => ⟨rfl, hw.kx.below⟩
end Go.Proofs.YtaijhbliagjeaaaDoor
