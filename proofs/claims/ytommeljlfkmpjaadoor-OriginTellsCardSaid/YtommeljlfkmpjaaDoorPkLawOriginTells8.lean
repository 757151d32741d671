/- ref09: mark, Scene, Check, every, members, shorter. / ref09: Scene, Check, Same, Twin, every. / ref09: Check, Same, Twin, members, shorter, least, next. / ref09: least, next, far. / ref09: far. -/
import Derived.Test.YtommeljlfkmpjaaDoorPkLawOriginTells7
set_option linter.unusedVariables false
set_option linter.unusedSimpArgs false
namespace Go.Proofs.YtommeljlfkmpjaaDoor
open Go.RowKit Go.Proofs.YtommeljlfkmpjaaDoorW.PrintWords
def noneB (m : MarT) : Bool := decide (m.f4.f0 = 0) && decide (m.f4.f1 = 0)
def kindB (R : Int) (m : MarT) : Bool :=
 if m.f1 = 1 ∨ m.f1 = 2 ∨ m.f1 = 3 then decide (m.f3 = 0) && decide (m.f5 = 0) && inF 0 m.f4.f1 m.f4.f0 && decide (m.f4.f1 ≤ 600)
 else if m.f1 = 4 ∨ m.f1 = 5 then decide (m.f3 = 0) && noneB m && inF 0 600 m.f5
 else if m.f1 = 6 then noneB m && decide (m.f5 = 0) && inF 0 (R - 1) m.f3 && !decide (m.f3 = m.f2) else false
def markB (R : Int) (m : MarT) : Bool := inF 0 9999 m.f0 && inF 0 (R - 1) m.f2 && kindB R m
set_option maxHeartbeats 4000000 in
theorem mark_calls (R E : Int) (A B : Option Addr) (n c k c2 : Nat) (m : MarT) (w : World) (hR : 1 ≤ R ∧ R ≤ 6) :
  Calls Tryd.prog 56 #[.agg (scnV R A n c E B k c2).toArray, .agg (marV m).toArray] w fun e w' => e = .returned (.bool (markB R m)) ∧ Below w.heap.size w w' := by
 refine x_calls (X := XNone) Tryd.func56 rfl rfl rfl ?_
 with_reducible ((repeat apply xc_seq); apply xcR)
 refine xo_box rfl rfl rfl rfl (fun b2 => ?_)
 refine xo_box rfl rfl rfl rfl (fun b3 => ?_)
 refine xoA ?_
 with_reducible (apply xo_nil; (repeat first | apply xqT | apply xqB | apply xqS); (repeat apply xc_seq))
 refine xc_meet2 (γ := Unit) (fun _ => True) (fun _ => [(2, .pointer (some ⟨b2, 0, none⟩)), (3, .pointer (some ⟨b3, 0, none⟩)), (18, .bool (!inF 0 9999 m.f0 || !inF 0 (R - 1) m.f2))]) (fun _ => [(b3, true, cel (marV m) 60), (b2, true, cel (scnV R A n c E B k c2) 25)]) ?_ (fun _ _ => ?_)
 ·with_reducible apply xcR
  refine xo_fa T_ rfl rfl rfl rfl rfl ?_
  refine xo_load0 T_ rfl rfl rfl (by repeat first | exact mH | apply mT | apply mA) rfl rfl ?_
  refine xo_callB (fs := []) (cs := []) rfl rfl rfl within_enters rfl (fun w1 hw1 => within_calls m.f0 0 9999 w1) ?_
  refine xo_notOp rfl rfl rfl ?_
  refine xoM ?_
  first
   | refine xo_lit (i := 10) (b := true) rfl ?_
   | refine xo_lit (i := 10) (b := false) rfl ?_
   | refine xo_split (i := 10) rfl rfl (fun h10 => ?_) (fun h10 => ?_)
  all_goals
   try simp only [decide_eq_true_eq, decide_eq_false_iff_not] at h10
   (first | refine xoN ?_ | refine xo_fa T_ rfl rfl rfl rfl rfl ?_)
   (first | refine xoN ?_ | refine xo_load0 T_ rfl rfl rfl (by repeat first | exact mH | apply mT | apply mA) rfl rfl ?_)
   (first | refine xoN ?_ | refine xo_fa T_ rfl rfl rfl rfl rfl ?_)
   (first | refine xoN ?_ | refine xo_load0 T_ rfl rfl rfl (by repeat first | exact mH | apply mT | apply mA) rfl rfl ?_)
   (first | refine xoN ?_ | refine xo_sub rfl rfl rfl (by omega) rfl ?_)
   (first | refine xoN ?_ | refine xo_callB (fs := []) (cs := []) rfl rfl rfl within_enters rfl (fun w1 hw1 => within_calls m.f2 0 (R - 1) w1) ?_)
   (first | refine xoN ?_ | refine xo_notOp rfl rfl rfl ?_)
   first | refine xo_pickT rfl rfl rfl rfl ?_ | refine xo_pickF rfl rfl rfl rfl ?_
   with_reducible apply xo_nil
   exact xq_meet (fun _ => True) _ _ () trivial ⟨(by first | rfl | exact congrArg (fun b => some (Value.bool b)) (by first | simp [h10] | simp [])), (by first | rfl | exact congrArg (fun b => some (Value.bool b)) (by first | simp [h10] | simp [])), (by first | rfl | exact congrArg (fun b => some (Value.bool b)) (by first | simp [h10] | simp [])), trivial⟩ (by repeat (first | exact List.Sublist.refl _ | apply List.Sublist.cons_cons | apply List.Sublist.cons | exact List.nil_sublist _))
 with_reducible (repeat first | apply xqT | apply xqB | apply xqS)
 cases hq : (!inF 0 9999 m.f0 || !inF 0 (R - 1) m.f2)
 rotate_left
 ·have e1 : markB R m = false := by
   unfold markB
   cases h1 : inF 0 9999 m.f0 <;> cases h2 : inF 0 (R - 1) m.f2 <;> simp [h1, h2] at hq ⊢
  rw [e1]
  with_reducible (repeat apply xc_seq)
  refine xc_condT rfl ?_
  with_reducible ((repeat apply xc_seq); apply xcR)
  refine xoA ?_
  with_reducible (apply xo_nil; (repeat first | apply xqT | apply xqB | apply xqS); (repeat apply xc_seq); apply xc_ret; (repeat (first | apply xq_thenR | apply xq_blockR | apply xq_scopeR)))
  exact xq_ret1 rfl rfl fun w' hw => ⟨rfl, hw.kx.below⟩
 have e1 : markB R m = kindB R m := by
  unfold markB
  cases h1 : inF 0 9999 m.f0 <;> cases h2 : inF 0 (R - 1) m.f2 <;> simp [h1, h2] at hq ⊢
 rw [e1]
 clear e1 hq
 with_reducible (repeat apply xc_seq)
 refine xc_condF rfl ?_
 with_reducible (apply xc_skip; (repeat first | apply xqT | apply xqB | apply xqS); (repeat apply xc_seq); apply xcR)
 refine xo_fa T_ rfl rfl rfl rfl rfl ?_
 refine xo_loadN T_ rfl rfl rfl (by repeat first | exact mH | apply mT | apply mA) rfl rfl ?_
 refine xo_build TB_ rfl rfl rfl rfl rfl ?_
 refine xo_eqlV rfl rfl rfl (fun w => spa_eq _ _ m.f4.f0 m.f4.f1 0 0 w) rfl ?_
 refine xoA ?_
 with_reducible (apply xo_nil; (repeat first | apply xqT | apply xqB | apply xqS); (repeat apply xc_seq); apply xcR)
 refine xo_fa T_ rfl rfl rfl rfl rfl ?_
 refine xo_load0 T_ rfl rfl rfl (by repeat first | exact mH | apply mT | apply mA) rfl rfl ?_
 with_reducible (apply xo_nil; (repeat first | apply xqT | apply xqB | apply xqS))
 refine xc_slots [(2, .pointer (some ⟨b2, 0, none⟩)), (3, .pointer (some ⟨b3, 0, none⟩)), (5, .bool (noneB m)), (24, .int .u8 m.f1)] ⟨rfl, rfl, rfl, rfl, trivial⟩ ?_
 have hk : m.f1 = 1 ∨ m.f1 = 2 ∨ m.f1 = 3 ∨ m.f1 = 4 ∨ m.f1 = 5 ∨ m.f1 = 6 ∨ (decide (m.f1 = 1) = false ∧ decide (m.f1 = 2) = false ∧ decide (m.f1 = 3) = false ∧ decide (m.f1 = 4) = false ∧ decide (m.f1 = 5) = false ∧ decide (m.f1 = 6) = false) := by
  simp only [decide_eq_false_iff_not]
  omega
 have early : ∀ (b : Bool), kindB R m = b → True := fun _ _ => trivial
 clear early
 with_reducible ((repeat apply xc_seq); apply xc_block)
 rcases hk with hk | hk | hk | hk | hk | hk | ⟨k1, k2, k3, k4, k5, k6⟩
 ·have e1 : kindB R m = (decide (m.f3 = 0) && decide (m.f5 = 0) && inF 0 m.f4.f1 m.f4.f0 && decide (m.f4.f1 ≤ 600)) := by unfold kindB; rw [if_pos (by omega)]
  rw [e1]
  obtain ⟨a0, a1, a2, a3, ⟨a4, a5⟩, a6⟩ := m
  simp only at hk
  subst hk
  with_reducible ((repeat apply xc_seq); apply xcR)
  refine xo_eql rfl rfl rfl rfl ?_
  refine xoA ?_
  with_reducible (apply xo_nil; (repeat first | apply xqT | apply xqB | apply xqS); (repeat apply xc_seq))
  refine xc_condT rfl ?_
  with_reducible (apply xc_skip; (repeat first | apply xqT | apply xqB | apply xqS); (repeat apply xc_seq))
  refine xc_condT rfl ?_
  with_reducible (repeat apply xc_seq)
  refine xc_meet2 (γ := Unit) (fun _ => True) (fun _ => [(4, .bool (decide (a3 = 0) && decide (a6 = 0) && inF 0 a5 a4 && decide (a5 ≤ 600)))]) (fun _ => []) ?_ (fun _ _ => ?_)
  ·with_reducible apply xcR
   refine xo_fa T_ rfl rfl rfl rfl rfl ?_
   refine xo_load0 T_ rfl rfl rfl (by repeat first | exact mH | apply mT | apply mA) rfl rfl ?_
   refine xo_eql rfl rfl rfl rfl ?_
   refine xoM ?_
   first
    | refine xo_lit (i := 32) (b := true) rfl ?_
    | refine xo_lit (i := 32) (b := false) rfl ?_
    | refine xo_split (i := 32) rfl rfl (fun h32 => ?_) (fun h32 => ?_)
   all_goals
    try simp only [decide_eq_true_eq, decide_eq_false_iff_not] at h32
    (first | refine xoN ?_ | refine xo_fa T_ rfl rfl rfl rfl rfl ?_)
    (first | refine xoN ?_ | refine xo_load0 T_ rfl rfl rfl (by repeat first | exact mH | apply mT | apply mA) rfl rfl ?_)
    (first | refine xoN ?_ | refine xo_eql rfl rfl rfl rfl ?_)
    first | refine xo_pickT rfl rfl rfl rfl ?_ | refine xo_pickF rfl rfl rfl rfl ?_
    refine xoM ?_
    first
     | refine xo_lit (i := 37) (b := true) rfl ?_
     | refine xo_lit (i := 37) (b := false) rfl ?_
     | refine xo_split (i := 37) rfl rfl (fun h37 => ?_) (fun h37 => ?_)
    all_goals
     try simp only [decide_eq_true_eq, decide_eq_false_iff_not] at h37
     (first | refine xoN ?_ | refine xo_fa T_ rfl rfl rfl rfl rfl ?_)
     (first | refine xoN ?_ | refine xo_fa T_ rfl rfl rfl rfl rfl ?_)
     (first | refine xoN ?_ | refine xo_load0 T_ rfl rfl rfl (by repeat first | exact mH | apply mT | apply mA) rfl rfl ?_)
     (first | refine xoN ?_ | refine xo_fa T_ rfl rfl rfl rfl rfl ?_)
     (first | refine xoN ?_ | refine xo_fa T_ rfl rfl rfl rfl rfl ?_)
     (first | refine xoN ?_ | refine xo_load0 T_ rfl rfl rfl (by repeat first | exact mH | apply mT | apply mA) rfl rfl ?_)
     (first | refine xoN ?_ | refine xo_callB (fs := []) (cs := []) rfl rfl rfl within_enters rfl (fun w1 hw1 => within_calls a4 0 a5 w1) ?_)
     first | refine xo_pickT rfl rfl rfl rfl ?_ | refine xo_pickF rfl rfl rfl rfl ?_
     refine xoM ?_
     first
      | refine xo_lit (i := 46) (b := true) rfl ?_
      | refine xo_lit (i := 46) (b := false) rfl ?_
      | refine xo_split (i := 46) rfl rfl (fun h46 => ?_) (fun h46 => ?_)
     all_goals
      try simp only [decide_eq_true_eq, decide_eq_false_iff_not] at h46
      (first | refine xoN ?_ | refine xo_fa T_ rfl rfl rfl rfl rfl ?_)
      (first | refine xoN ?_ | refine xo_fa T_ rfl rfl rfl rfl rfl ?_)
      (first | refine xoN ?_ | refine xo_load0 T_ rfl rfl rfl (by repeat first | exact mH | apply mT | apply mA) rfl rfl ?_)
      (first | refine xoN ?_ | refine xo_leq rfl rfl rfl rfl ?_)
      first | refine xo_pickT rfl rfl rfl rfl ?_ | refine xo_pickF rfl rfl rfl rfl ?_
      refine xoA ?_
      with_reducible apply xo_nil
      exact xq_meet (fun _ => True) _ _ () trivial ⟨(by first | rfl | exact congrArg (fun b => some (Value.bool b)) (by first | simp [h32, h37, h46] | simp [h32, h37] | simp [h32] | simp [])), trivial⟩ (by repeat (first | exact List.Sublist.refl _ | apply List.Sublist.cons_cons | apply List.Sublist.cons | exact List.nil_sublist _))
  with_reducible ((repeat first | apply xqT | apply xqB | apply xqS); (repeat apply xc_seq); apply xc_ret; (repeat (first | apply xq_thenR | apply xq_blockR | apply xq_scopeR)))
  exact xq_ret1 rfl rfl fun w' hw => ⟨rfl, hw.kx.below⟩
 ·have e1 : kindB R m = (decide (m.f3 = 0) && decide (m.f5 = 0) && inF 0 m.f4.f1 m.f4.f0 && decide (m.f4.f1 ≤ 600)) := by unfold kindB; rw [if_pos (by omega)]
  rw [e1]
  obtain ⟨a0, a1, a2, a3, ⟨a4, a5⟩, a6⟩ := m
  simp only at hk
  subst hk
  with_reducible ((repeat apply xc_seq); apply xcR)
  refine xo_eql rfl rfl rfl rfl ?_
  refine xoA ?_
  with_reducible (apply xo_nil; (repeat first | apply xqT | apply xqB | apply xqS); (repeat apply xc_seq))
  refine xc_condF rfl ?_
  with_reducible ((repeat apply xc_seq); apply xcR)
  refine xo_eql rfl rfl rfl rfl ?_
  refine xoA ?_
  with_reducible (apply xo_nil; (repeat first | apply xqT | apply xqB | apply xqS); (repeat apply xc_seq))
  refine xc_condT rfl ?_
  with_reducible (apply xc_skip; (repeat first | apply xqT | apply xqB | apply xqS); (repeat apply xc_seq))
  refine xc_condT rfl ?_
  with_reducible (repeat apply xc_seq)
  refine xc_meet2 (γ := Unit) (fun _ => True) (fun _ => [(4, .bool (decide (a3 = 0) && decide (a6 = 0) && inF 0 a5 a4 && decide (a5 ≤ 600)))]) (fun _ => []) ?_ (fun _ _ => ?_)
  ·with_reducible apply xcR
   refine xo_fa T_ rfl rfl rfl rfl rfl ?_
   refine xo_load0 T_ rfl rfl rfl (by repeat first | exact mH | apply mT | apply mA) rfl rfl ?_
   refine xo_eql rfl rfl rfl rfl ?_
   refine xoM ?_
   first
    | refine xo_lit (i := 32) (b := true) rfl ?_
    | refine xo_lit (i := 32) (b := false) rfl ?_
    | refine xo_split (i := 32) rfl rfl (fun h32 => ?_) (fun h32 => ?_)
   all_goals
    try simp only [decide_eq_true_eq, decide_eq_false_iff_not] at h32
    (first | refine xoN ?_ | refine xo_fa T_ rfl rfl rfl rfl rfl ?_)
    (first | refine xoN ?_ | refine xo_load0 T_ rfl rfl rfl (by repeat first | exact mH | apply mT | apply mA) rfl rfl ?_)
    (first | refine xoN ?_ | refine xo_eql rfl rfl rfl rfl ?_)
    first | refine xo_pickT rfl rfl rfl rfl ?_ | refine xo_pickF rfl rfl rfl rfl ?_
    refine xoM ?_
    first
     | refine xo_lit (i := 37) (b := true) rfl ?_
     | refine xo_lit (i := 37) (b := false) rfl ?_
     | refine xo_split (i := 37) rfl rfl (fun h37 => ?_) (fun h37 => ?_)
    all_goals
     try simp only [decide_eq_true_eq, decide_eq_false_iff_not] at h37
     (first | refine xoN ?_ | refine xo_fa T_ rfl rfl rfl rfl rfl ?_)
     (first | refine xoN ?_ | refine xo_fa T_ rfl rfl rfl rfl rfl ?_)
     (first | refine xoN ?_ | refine xo_load0 T_ rfl rfl rfl (by repeat first | exact mH | apply mT | apply mA) rfl rfl ?_)
     (first | refine xoN ?_ | refine xo_fa T_ rfl rfl rfl rfl rfl ?_)
     (first | refine xoN ?_ | refine xo_fa T_ rfl rfl rfl rfl rfl ?_)
     (first | refine xoN ?_ | refine xo_load0 T_ rfl rfl rfl (by repeat first | exact mH | apply mT | apply mA) rfl rfl ?_)
     (first | refine xoN ?_ | refine xo_callB (fs := []) (cs := []) rfl rfl rfl within_enters rfl (fun w1 hw1 => within_calls a4 0 a5 w1) ?_)
     first | refine xo_pickT rfl rfl rfl rfl ?_ | refine xo_pickF rfl rfl rfl rfl ?_
     refine xoM ?_
     first
      | refine xo_lit (i := 46) (b := true) rfl ?_
      | refine xo_lit (i := 46) (b := false) rfl ?_
      | refine xo_split (i := 46) rfl rfl (fun h46 => ?_) (fun h46 => ?_)
     all_goals
      try simp only [decide_eq_true_eq, decide_eq_false_iff_not] at h46
      (first | refine xoN ?_ | refine xo_fa T_ rfl rfl rfl rfl rfl ?_)
      (first | refine xoN ?_ | refine xo_fa T_ rfl rfl rfl rfl rfl ?_)
      (first | refine xoN ?_ | refine xo_load0 T_ rfl rfl rfl (by repeat first | exact mH | apply mT | apply mA) rfl rfl ?_)
      (first | refine xoN ?_ | refine xo_leq rfl rfl rfl rfl ?_)
      first | refine xo_pickT rfl rfl rfl rfl ?_ | refine xo_pickF rfl rfl rfl rfl ?_
      refine xoA ?_
      with_reducible apply xo_nil
      exact xq_meet (fun _ => True) _ _ () trivial ⟨(by first | rfl | exact congrArg (fun b => some (Value.bool b)) (by first | simp [h32, h37, h46] | simp [h32, h37] | simp [h32] | simp [])), trivial⟩ (by repeat (first | exact List.Sublist.refl _ | apply List.Sublist.cons_cons | apply List.Sublist.cons | exact List.nil_sublist _))
  with_reducible ((repeat first | apply xqT | apply xqB | apply xqS); (repeat apply xc_seq); apply xc_ret; (repeat (first | apply xq_thenR | apply xq_blockR | apply xq_scopeR)))
  exact xq_ret1 rfl rfl fun w' hw => ⟨rfl, hw.kx.below⟩
 ·have e1 : kindB R m = (decide (m.f3 = 0) && decide (m.f5 = 0) && inF 0 m.f4.f1 m.f4.f0 && decide (m.f4.f1 ≤ 600)) := by unfold kindB; rw [if_pos (by omega)]
  rw [e1]
  obtain ⟨a0, a1, a2, a3, ⟨a4, a5⟩, a6⟩ := m
  simp only at hk
  subst hk
  with_reducible ((repeat apply xc_seq); apply xcR)
  refine xo_eql rfl rfl rfl rfl ?_
  refine xoA ?_
  with_reducible (apply xo_nil; (repeat first | apply xqT | apply xqB | apply xqS); (repeat apply xc_seq))
  refine xc_condF rfl ?_
  with_reducible ((repeat apply xc_seq); apply xcR)
  refine xo_eql rfl rfl rfl rfl ?_
  refine xoA ?_
  with_reducible (apply xo_nil; (repeat first | apply xqT | apply xqB | apply xqS); (repeat apply xc_seq))
  refine xc_condF rfl ?_
  with_reducible ((repeat apply xc_seq); apply xcR)
  refine xo_eql rfl rfl rfl rfl ?_
  refine xoA ?_
  with_reducible (apply xo_nil; (repeat first | apply xqT | apply xqB | apply xqS); (repeat apply xc_seq))
  refine xc_condT rfl ?_
  with_reducible (repeat apply xc_seq)
  refine xc_meet2 (γ := Unit) (fun _ => True) (fun _ => [(4, .bool (decide (a3 = 0) && decide (a6 = 0) && inF 0 a5 a4 && decide (a5 ≤ 600)))]) (fun _ => []) ?_ (fun _ _ => ?_)
  ·with_reducible apply xcR
   refine xo_fa T_ rfl rfl rfl rfl rfl ?_
   refine xo_load0 T_ rfl rfl rfl (by repeat first | exact mH | apply mT | apply mA) rfl rfl ?_
   refine xo_eql rfl rfl rfl rfl ?_
   refine xoM ?_
   first
    | refine xo_lit (i := 32) (b := true) rfl ?_
    | refine xo_lit (i := 32) (b := false) rfl ?_
    | refine xo_split (i := 32) rfl rfl (fun h32 => ?_) (fun h32 => ?_)
   all_goals
    try simp only [decide_eq_true_eq, decide_eq_false_iff_not] at h32
    (first | refine xoN ?_ | refine xo_fa T_ rfl rfl rfl rfl rfl ?_)
    (first | refine xoN ?_ | refine xo_load0 T_ rfl rfl rfl (by repeat first | exact mH | apply mT | apply mA) rfl rfl ?_)
    (first | refine xoN ?_ | refine xo_eql rfl rfl rfl rfl ?_)
    first | refine xo_pickT rfl rfl rfl rfl ?_ | refine xo_pickF rfl rfl rfl rfl ?_
    refine xoM ?_
    first
     | refine xo_lit (i := 37) (b := true) rfl ?_
     | refine xo_lit (i := 37) (b := false) rfl ?_
     | refine xo_split (i := 37) rfl rfl (fun h37 => ?_) (fun h37 => ?_)
    all_goals
     try simp only [decide_eq_true_eq, decide_eq_false_iff_not] at h37
     (first | refine xoN ?_ | refine xo_fa T_ rfl rfl rfl rfl rfl ?_)
     (first | refine xoN ?_ | refine xo_fa T_ rfl rfl rfl rfl rfl ?_)
     (first | refine xoN ?_ | refine xo_load0 T_ rfl rfl rfl (by repeat first | exact mH | apply mT | apply mA) rfl rfl ?_)
     (first | refine xoN ?_ | refine xo_fa T_ rfl rfl rfl rfl rfl ?_)
     (first | refine xoN ?_ | refine xo_fa T_ rfl rfl rfl rfl rfl ?_)
     (first | refine xoN ?_ | refine xo_load0 T_ rfl rfl rfl (by repeat first | exact mH | apply mT | apply mA) rfl rfl ?_)
     (first | refine xoN ?_ | refine xo_callB (fs := []) (cs := []) rfl rfl rfl within_enters rfl (fun w1 hw1 => within_calls a4 0 a5 w1) ?_)
     first | refine xo_pickT rfl rfl rfl rfl ?_ | refine xo_pickF rfl rfl rfl rfl ?_
     refine xoM ?_
     first
      | refine xo_lit (i := 46) (b := true) rfl ?_
      | refine xo_lit (i := 46) (b := false) rfl ?_
      | refine xo_split (i := 46) rfl rfl (fun h46 => ?_) (fun h46 => ?_)
     all_goals
      try simp only [decide_eq_true_eq, decide_eq_false_iff_not] at h46
      (first | refine xoN ?_ | refine xo_fa T_ rfl rfl rfl rfl rfl ?_)
      (first | refine xoN ?_ | refine xo_fa T_ rfl rfl rfl rfl rfl ?_)
      (first | refine xoN ?_ | refine xo_load0 T_ rfl rfl rfl (by repeat first | exact mH | apply mT | apply mA) rfl rfl ?_)
      (first | refine xoN ?_ | refine xo_leq rfl rfl rfl rfl ?_)
      first | refine xo_pickT rfl rfl rfl rfl ?_ | refine xo_pickF rfl rfl rfl rfl ?_
      refine xoA ?_
      with_reducible apply xo_nil
      exact xq_meet (fun _ => True) _ _ () trivial ⟨(by first | rfl | exact congrArg (fun b => some (Value.bool b)) (by first | simp [h32, h37, h46] | simp [h32, h37] | simp [h32] | simp [])), trivial⟩ (by repeat (first | exact List.Sublist.refl _ | apply List.Sublist.cons_cons | apply List.Sublist.cons | exact List.nil_sublist _))
  with_reducible ((repeat first | apply xqT | apply xqB | apply xqS); (repeat apply xc_seq); apply xc_ret; (repeat (first | apply xq_thenR | apply xq_blockR | apply xq_scopeR)))
  exact xq_ret1 rfl rfl fun w' hw => ⟨rfl, hw.kx.below⟩
 ·have e1 : kindB R m = (decide (m.f3 = 0) && noneB m && inF 0 600 m.f5) := by unfold kindB; rw [if_neg (by omega), if_pos (by omega)]
  rw [e1]
  generalize noneB m = nb
  obtain ⟨a0, a1, a2, a3, ⟨a4, a5⟩, a6⟩ := m
  simp only at hk
  subst hk
  with_reducible ((repeat apply xc_seq); apply xcR)
  refine xo_eql rfl rfl rfl rfl ?_
  refine xoA ?_
  with_reducible (apply xo_nil; (repeat first | apply xqT | apply xqB | apply xqS); (repeat apply xc_seq))
  refine xc_condF rfl ?_
  with_reducible ((repeat apply xc_seq); apply xcR)
  refine xo_eql rfl rfl rfl rfl ?_
  refine xoA ?_
  with_reducible (apply xo_nil; (repeat first | apply xqT | apply xqB | apply xqS); (repeat apply xc_seq))
  refine xc_condF rfl ?_
  with_reducible ((repeat apply xc_seq); apply xcR)
  refine xo_eql rfl rfl rfl rfl ?_
  refine xoA ?_
  with_reducible (apply xo_nil; (repeat first | apply xqT | apply xqB | apply xqS); (repeat apply xc_seq))
  refine xc_condF rfl ?_
  with_reducible ((repeat apply xc_seq); apply xcR)
  refine xo_eql rfl rfl rfl rfl ?_
  refine xoA ?_
  with_reducible (apply xo_nil; (repeat first | apply xqT | apply xqB | apply xqS); (repeat apply xc_seq))
  refine xc_condT rfl ?_
  with_reducible (apply xc_skip; (repeat first | apply xqT | apply xqB | apply xqS); (repeat apply xc_seq))
  refine xc_condT rfl ?_
  with_reducible (repeat apply xc_seq)
  refine xc_meet2 (γ := Unit) (fun _ => True) (fun _ => [(4, .bool (decide (a3 = 0) && nb && inF 0 600 a6))]) (fun _ => []) ?_ (fun _ _ => ?_)
  ·with_reducible apply xcR
   refine xo_fa T_ rfl rfl rfl rfl rfl ?_
   refine xo_load0 T_ rfl rfl rfl (by repeat first | exact mH | apply mT | apply mA) rfl rfl ?_
   refine xo_eql rfl rfl rfl rfl ?_
   refine xoM ?_
   first
    | refine xo_lit (i := 58) (b := true) rfl ?_
    | refine xo_lit (i := 58) (b := false) rfl ?_
    | refine xo_split (i := 58) rfl rfl (fun h58 => ?_) (fun h58 => ?_)
   all_goals
    try simp only [decide_eq_true_eq, decide_eq_false_iff_not] at h58
    (first | refine xoN ?_ | refine xoM ?_)
    first | refine xo_pickT rfl rfl rfl rfl ?_ | refine xo_pickF rfl rfl rfl rfl ?_
    refine xoM ?_
    first
     | refine xo_lit (i := 61) (b := true) rfl ?_
     | refine xo_lit (i := 61) (b := false) rfl ?_
     | refine xo_split (i := 61) rfl rfl (fun h61 => ?_) (fun h61 => ?_)
    all_goals
     try simp only [decide_eq_true_eq, decide_eq_false_iff_not] at h61
     (first | refine xoN ?_ | refine xo_fa T_ rfl rfl rfl rfl rfl ?_)
     (first | refine xoN ?_ | refine xo_load0 T_ rfl rfl rfl (by repeat first | exact mH | apply mT | apply mA) rfl rfl ?_)
     (first | refine xoN ?_ | refine xo_callB (fs := []) (cs := []) rfl rfl rfl within_enters rfl (fun w1 hw1 => within_calls a6 0 600 w1) ?_)
     first | refine xo_pickT rfl rfl rfl rfl ?_ | refine xo_pickF rfl rfl rfl rfl ?_
     refine xoA ?_
     with_reducible apply xo_nil
     exact xq_meet (fun _ => True) _ _ () trivial ⟨(by first | rfl | exact congrArg (fun b => some (Value.bool b)) (by first | simp [h58, h61] | simp [h58] | simp [])), trivial⟩ (by repeat (first | exact List.Sublist.refl _ | apply List.Sublist.cons_cons | apply List.Sublist.cons | exact List.nil_sublist _))
  with_reducible ((repeat first | apply xqT | apply xqB | apply xqS); (repeat apply xc_seq); apply xc_ret; (repeat (first | apply xq_thenR | apply xq_blockR | apply xq_scopeR)))
  exact xq_ret1 rfl rfl fun w' hw => ⟨rfl, hw.kx.below⟩
 ·have e1 : kindB R m = (decide (m.f3 = 0) && noneB m && inF 0 600 m.f5) := by unfold kindB; rw [if_neg (by omega), if_pos (by omega)]
  rw [e1]
  generalize noneB m = nb
  obtain ⟨a0, a1, a2, a3, ⟨a4, a5⟩, a6⟩ := m
  simp only at hk
  subst hk
  with_reducible ((repeat apply xc_seq); apply xcR)
  refine xo_eql rfl rfl rfl rfl ?_
  refine xoA ?_
  with_reducible (apply xo_nil; (repeat first | apply xqT | apply xqB | apply xqS); (repeat apply xc_seq))
  refine xc_condF rfl ?_
  with_reducible ((repeat apply xc_seq); apply xcR)
  refine xo_eql rfl rfl rfl rfl ?_
  refine xoA ?_
  with_reducible (apply xo_nil; (repeat first | apply xqT | apply xqB | apply xqS); (repeat apply xc_seq))
  refine xc_condF rfl ?_
  with_reducible ((repeat apply xc_seq); apply xcR)
  refine xo_eql rfl rfl rfl rfl ?_
  refine xoA ?_
  with_reducible (apply xo_nil; (repeat first | apply xqT | apply xqB | apply xqS); (repeat apply xc_seq))
  refine xc_condF rfl ?_
  with_reducible ((repeat apply xc_seq); apply xcR)
  refine xo_eql rfl rfl rfl rfl ?_
  refine xoA ?_
  with_reducible (apply xo_nil; (repeat first | apply xqT | apply xqB | apply xqS); (repeat apply xc_seq))
  refine xc_condF rfl ?_
  with_reducible ((repeat apply xc_seq); apply xcR)
  refine xo_eql rfl rfl rfl rfl ?_
  refine xoA ?_
  with_reducible (apply xo_nil; (repeat first | apply xqT | apply xqB | apply xqS); (repeat apply xc_seq))
  refine xc_condT rfl ?_
  with_reducible (repeat apply xc_seq)
  refine xc_meet2 (γ := Unit) (fun _ => True) (fun _ => [(4, .bool (decide (a3 = 0) && nb && inF 0 600 a6))]) (fun _ => []) ?_ (fun _ _ => ?_)
  ·with_reducible apply xcR
   refine xo_fa T_ rfl rfl rfl rfl rfl ?_
   refine xo_load0 T_ rfl rfl rfl (by repeat first | exact mH | apply mT | apply mA) rfl rfl ?_
   refine xo_eql rfl rfl rfl rfl ?_
   refine xoM ?_
   first
    | refine xo_lit (i := 58) (b := true) rfl ?_
    | refine xo_lit (i := 58) (b := false) rfl ?_
    | refine xo_split (i := 58) rfl rfl (fun h58 => ?_) (fun h58 => ?_)
   all_goals
    try simp only [decide_eq_true_eq, decide_eq_false_iff_not] at h58
    (first | refine xoN ?_ | refine xoM ?_)
    first | refine xo_pickT rfl rfl rfl rfl ?_ | refine xo_pickF rfl rfl rfl rfl ?_
    refine xoM ?_
    first
     | refine xo_lit (i := 61) (b := true) rfl ?_
     | refine xo_lit (i := 61) (b := false) rfl ?_
     | refine xo_split (i := 61) rfl rfl (fun h61 => ?_) (fun h61 => ?_)
    all_goals
     try simp only [decide_eq_true_eq, decide_eq_false_iff_not] at h61
     (first | refine xoN ?_ | refine xo_fa T_ rfl rfl rfl rfl rfl ?_)
     (first | refine xoN ?_ | refine xo_load0 T_ rfl rfl rfl (by repeat first | exact mH | apply mT | apply mA) rfl rfl ?_)
     (first | refine xoN ?_ | refine xo_callB (fs := []) (cs := []) rfl rfl rfl within_enters rfl (fun w1 hw1 => within_calls a6 0 600 w1) ?_)
     first | refine xo_pickT rfl rfl rfl rfl ?_ | refine xo_pickF rfl rfl rfl rfl ?_
     refine xoA ?_
     with_reducible apply xo_nil
     exact xq_meet (fun _ => True) _ _ () trivial ⟨(by first | rfl | exact congrArg (fun b => some (Value.bool b)) (by first | simp [h58, h61] | simp [h58] | simp [])), trivial⟩ (by repeat (first | exact List.Sublist.refl _ | apply List.Sublist.cons_cons | apply List.Sublist.cons | exact List.nil_sublist _))
  with_reducible ((repeat first | apply xqT | apply xqB | apply xqS); (repeat apply xc_seq); apply xc_ret; (repeat (first | apply xq_thenR | apply xq_blockR | apply xq_scopeR)))
  exact xq_ret1 rfl rfl fun w' hw => ⟨rfl, hw.kx.below⟩
 ·have e1 : kindB R m = (noneB m && decide (m.f5 = 0) && inF 0 (R - 1) m.f3 && !decide (m.f3 = m.f2)) := by unfold kindB; rw [if_neg (by omega), if_neg (by omega), if_pos (by omega)]
  rw [e1]
  generalize noneB m = nb
  obtain ⟨a0, a1, a2, a3, ⟨a4, a5⟩, a6⟩ := m
  simp only at hk
  subst hk
  with_reducible ((repeat apply xc_seq); apply xcR)
  refine xo_eql rfl rfl rfl rfl ?_
  refine xoA ?_
  with_reducible (apply xo_nil; (repeat first | apply xqT | apply xqB | apply xqS); (repeat apply xc_seq))
  refine xc_condF rfl ?_
  with_reducible ((repeat apply xc_seq); apply xcR)
  refine xo_eql rfl rfl rfl rfl ?_
  refine xoA ?_
  with_reducible (apply xo_nil; (repeat first | apply xqT | apply xqB | apply xqS); (repeat apply xc_seq))
  refine xc_condF rfl ?_
  with_reducible ((repeat apply xc_seq); apply xcR)
  refine xo_eql rfl rfl rfl rfl ?_
  refine xoA ?_
  with_reducible (apply xo_nil; (repeat first | apply xqT | apply xqB | apply xqS); (repeat apply xc_seq))
  refine xc_condF rfl ?_
  with_reducible ((repeat apply xc_seq); apply xcR)
  refine xo_eql rfl rfl rfl rfl ?_
  refine xoA ?_
  with_reducible (apply xo_nil; (repeat first | apply xqT | apply xqB | apply xqS); (repeat apply xc_seq))
  refine xc_condF rfl ?_
  with_reducible ((repeat apply xc_seq); apply xcR)
  refine xo_eql rfl rfl rfl rfl ?_
  refine xoA ?_
  with_reducible (apply xo_nil; (repeat first | apply xqT | apply xqB | apply xqS); (repeat apply xc_seq))
  refine xc_condF rfl ?_
  with_reducible ((repeat apply xc_seq); apply xcR)
  refine xo_eql rfl rfl rfl rfl ?_
  refine xoA ?_
  with_reducible (apply xo_nil; (repeat first | apply xqT | apply xqB | apply xqS); (repeat apply xc_seq))
  refine xc_condT rfl ?_
  with_reducible (repeat apply xc_seq)
  refine xc_meet2 (γ := Unit) (fun _ => True) (fun _ => [(4, .bool (nb && decide (a6 = 0) && inF 0 (R - 1) a3 && !decide (a3 = a2)))]) (fun _ => []) ?_ (fun _ _ => ?_)
  ·with_reducible apply xcR
   refine xoM ?_
   refine xoM ?_
   first
    | refine xo_lit (i := 69) (b := true) rfl ?_
    | refine xo_lit (i := 69) (b := false) rfl ?_
    | refine xo_split (i := 69) rfl rfl (fun h69 => ?_) (fun h69 => ?_)
   all_goals
    try simp only [decide_eq_true_eq, decide_eq_false_iff_not] at h69
    (first | refine xoN ?_ | refine xo_fa T_ rfl rfl rfl rfl rfl ?_)
    (first | refine xoN ?_ | refine xo_load0 T_ rfl rfl rfl (by repeat first | exact mH | apply mT | apply mA) rfl rfl ?_)
    (first | refine xoN ?_ | refine xo_eql rfl rfl rfl rfl ?_)
    first | refine xo_pickT rfl rfl rfl rfl ?_ | refine xo_pickF rfl rfl rfl rfl ?_
    refine xoM ?_
    first
     | refine xo_lit (i := 74) (b := true) rfl ?_
     | refine xo_lit (i := 74) (b := false) rfl ?_
     | refine xo_split (i := 74) rfl rfl (fun h74 => ?_) (fun h74 => ?_)
    all_goals
     try simp only [decide_eq_true_eq, decide_eq_false_iff_not] at h74
     (first | refine xoN ?_ | refine xo_fa T_ rfl rfl rfl rfl rfl ?_)
     (first | refine xoN ?_ | refine xo_load0 T_ rfl rfl rfl (by repeat first | exact mH | apply mT | apply mA) rfl rfl ?_)
     (first | refine xoN ?_ | refine xo_fa T_ rfl rfl rfl rfl rfl ?_)
     (first | refine xoN ?_ | refine xo_load0 T_ rfl rfl rfl (by repeat first | exact mH | apply mT | apply mA) rfl rfl ?_)
     (first | refine xoN ?_ | refine xo_sub rfl rfl rfl (by omega) rfl ?_)
     (first | refine xoN ?_ | refine xo_callB (fs := []) (cs := []) rfl rfl rfl within_enters rfl (fun w1 hw1 => within_calls a3 0 (R - 1) w1) ?_)
     first | refine xo_pickT rfl rfl rfl rfl ?_ | refine xo_pickF rfl rfl rfl rfl ?_
     refine xoM ?_
     first
      | refine xo_lit (i := 82) (b := true) rfl ?_
      | refine xo_lit (i := 82) (b := false) rfl ?_
      | refine xo_split (i := 82) rfl rfl (fun h82 => ?_) (fun h82 => ?_)
     all_goals
      try simp only [decide_eq_true_eq, decide_eq_false_iff_not] at h82
      (first | refine xoN ?_ | refine xo_fa T_ rfl rfl rfl rfl rfl ?_)
      (first | refine xoN ?_ | refine xo_load0 T_ rfl rfl rfl (by repeat first | exact mH | apply mT | apply mA) rfl rfl ?_)
      (first | refine xoN ?_ | refine xo_fa T_ rfl rfl rfl rfl rfl ?_)
      (first | refine xoN ?_ | refine xo_load0 T_ rfl rfl rfl (by repeat first | exact mH | apply mT | apply mA) rfl rfl ?_)
      (first | refine xoN ?_ | refine xo_neq rfl rfl rfl rfl ?_)
      first | refine xo_pickT rfl rfl rfl rfl ?_ | refine xo_pickF rfl rfl rfl rfl ?_
      refine xoA ?_
      with_reducible apply xo_nil
      exact xq_meet (fun _ => True) _ _ () trivial ⟨(by first | rfl | exact congrArg (fun b => some (Value.bool b)) (by first | simp [h69, h74, h82] | simp [h69, h74] | simp [h69] | simp [])), trivial⟩ (by repeat (first | exact List.Sublist.refl _ | apply List.Sublist.cons_cons | apply List.Sublist.cons | exact List.nil_sublist _))
  with_reducible ((repeat first | apply xqT | apply xqB | apply xqS); (repeat apply xc_seq); apply xc_ret; (repeat (first | apply xq_thenR | apply xq_blockR | apply xq_scopeR)))
  exact xq_ret1 rfl rfl fun w' hw => ⟨rfl, hw.kx.below⟩
 ·have e1 : kindB R m = false := by
   simp only [decide_eq_false_iff_not] at k1 k2 k3 k4 k5 k6
   unfold kindB
   rw [if_neg (by omega), if_neg (by omega), if_neg (by omega)]
  rw [e1]
  with_reducible ((repeat apply xc_seq); apply xcR)
  refine xo_eql rfl rfl rfl rfl ?_
  refine xo_as (i := 26) rfl (congrArg Value.bool k1) ?_
  refine xoA ?_
  with_reducible (apply xo_nil; (repeat first | apply xqT | apply xqB | apply xqS); (repeat apply xc_seq))
  refine xc_condF rfl ?_
  with_reducible ((repeat apply xc_seq); apply xcR)
  refine xo_eql rfl rfl rfl rfl ?_
  refine xo_as (i := 27) rfl (congrArg Value.bool k2) ?_
  refine xoA ?_
  with_reducible (apply xo_nil; (repeat first | apply xqT | apply xqB | apply xqS); (repeat apply xc_seq))
  refine xc_condF rfl ?_
  with_reducible ((repeat apply xc_seq); apply xcR)
  refine xo_eql rfl rfl rfl rfl ?_
  refine xo_as (i := 28) rfl (congrArg Value.bool k3) ?_
  refine xoA ?_
  with_reducible (apply xo_nil; (repeat first | apply xqT | apply xqB | apply xqS); (repeat apply xc_seq))
  refine xc_condF rfl ?_
  with_reducible ((repeat apply xc_seq); apply xcR)
  refine xo_eql rfl rfl rfl rfl ?_
  refine xo_as (i := 53) rfl (congrArg Value.bool k4) ?_
  refine xoA ?_
  with_reducible (apply xo_nil; (repeat first | apply xqT | apply xqB | apply xqS); (repeat apply xc_seq))
  refine xc_condF rfl ?_
  with_reducible ((repeat apply xc_seq); apply xcR)
  refine xo_eql rfl rfl rfl rfl ?_
  refine xo_as (i := 54) rfl (congrArg Value.bool k5) ?_
  refine xoA ?_
  with_reducible (apply xo_nil; (repeat first | apply xqT | apply xqB | apply xqS); (repeat apply xc_seq))
  refine xc_condF rfl ?_
  with_reducible ((repeat apply xc_seq); apply xcR)
  refine xo_eql rfl rfl rfl rfl ?_
  refine xo_as (i := 67) rfl (congrArg Value.bool k6) ?_
  refine xoA ?_
  with_reducible (apply xo_nil; (repeat first | apply xqT | apply xqB | apply xqS); (repeat apply xc_seq))
  refine xc_condF rfl ?_
  with_reducible (apply xc_skip; (repeat first | apply xqT | apply xqB | apply xqS); (repeat apply xc_seq); apply xcR)
  refine xoA ?_
  with_reducible (apply xo_nil; (repeat first | apply xqT | apply xqB | apply xqS); (repeat apply xc_seq); apply xc_ret; (repeat (first | apply xq_thenR | apply xq_blockR | apply xq_scopeR)))
  exact xq_ret1 rfl rfl fun w' hw => ⟨rfl, hw.kx.below⟩
theorem mark_enters : ∀ args w, (callFunc 56 args).run Tryd.prog w = .ok (.enter 56 args) w := enters_of Tryd.func56 (by kernel_rfl) rfl
def gateB (R : Int) (g : GatT) : Bool := inF 0 (R - 1) g.f0 && inF 0 (R - 1) g.f1 && !decide (g.f0 = g.f1) && inF 0 60 g.f2.f0 && inF g.f2.f0 (g.f2.f0 + 2) g.f2.f1 && !decide (60 < g.f2.f1)
def marksB (R : Int) : Int → List MarT → Bool
 | _, [] => true
 | last, m :: ms => (markB R m && decide (last < m.f0)) && marksB R m.f0 ms
def sceneB (R E : Int) (gs : List GatT) (ms : List MarT) : Bool := !(!inF 1 6 R || !inF 0 600 E || decide ((6 : Int) < gs.length) || decide ((8 : Int) < ms.length)) && gs.all (gateB R) && marksB R (-1) ms
theorem gate_same (R : Int) (g : GatT) : gateB R g = gateF R g := by
 rw [Bool.eq_iff_iff]
 simp only [gateB, gateF, inF, Bool.and_eq_true, Bool.not_eq_true', decide_eq_true_eq, decide_eq_false_iff_not]
 omega
theorem kind_same (R : Int) (m : MarT) (h : inF 1 6 m.f1 = true) : kindB R m = kindF R m := by
 have h1 := inF_iff.1 h
 unfold kindB kindF
 rw [Bool.eq_iff_iff]
 by_cases c1 : m.f1 ≤ 3
 ·rw [if_pos (show m.f1 = 1 ∨ m.f1 = 2 ∨ m.f1 = 3 by omega), if_pos c1]
  simp only [timedF, inF, Bool.and_eq_true, decide_eq_true_eq]
  omega
 ·rw [if_neg (show ¬ (m.f1 = 1 ∨ m.f1 = 2 ∨ m.f1 = 3) by omega), if_neg c1]
  by_cases c2 : m.f1 ≤ 5
  ·rw [if_pos (show m.f1 = 4 ∨ m.f1 = 5 by omega), if_pos c2]
   simp only [lastingF, noneF, noneB, inF, Bool.and_eq_true, decide_eq_true_eq]
   omega
  ·rw [if_neg (show ¬ (m.f1 = 4 ∨ m.f1 = 5) by omega), if_neg c2, if_pos (show m.f1 = 6 by omega)]
   simp only [beforeF, noneF, noneB, inF, Bool.and_eq_true, Bool.not_eq_true', decide_eq_true_eq, decide_eq_false_iff_not]
   omega
theorem kindB_in {R : Int} {m : MarT} (h : kindB R m = true) : inF 1 6 m.f1 = true := by
 unfold kindB at h
 refine inF_iff.2 ?_
 split at h
 ·omega
 ·split at h
  ·omega
  ·split at h
   ·omega
   ·cases h
theorem marks_same (R : Int) : ∀ (ms : List MarT) (last : Int), -1 ≤ last → marksB R last ms = marksF R last ms
 | [], _, _ => rfl
 | m :: ms, last, hl => by
  rw [marksB, marksF]
  cases h1 : (markB R m && decide (last < m.f0))
  ·cases h2 : (inF (last + 1) 9999 m.f0 && inF 0 (R - 1) m.f2 && inF 1 6 m.f1 && kindF R m)
   ·rfl
   ·exfalso
    simp only [Bool.and_eq_true] at h2
    have q := inF_iff.1 h2.1.1.1
    rw [← kind_same R m h2.1.2] at h2
    have : (markB R m && decide (last < m.f0)) = true := by
     simp only [markB, Bool.and_eq_true, decide_eq_true_eq]
     exact ⟨⟨⟨inF_iff.2 (by omega), h2.1.1.2⟩, h2.2⟩, by omega⟩
    rw [h1] at this
    cases this
  ·simp only [markB, Bool.and_eq_true, decide_eq_true_eq] at h1
   have q := inF_iff.1 h1.1.1.1
   have k := kindB_in h1.1.2
   have e : (inF (last + 1) 9999 m.f0 && inF 0 (R - 1) m.f2 && inF 1 6 m.f1 && kindF R m) = true := by
    rw [← kind_same R m k]
    simp only [Bool.and_eq_true]
    exact ⟨⟨⟨inF_iff.2 (by omega), h1.1.1.2⟩, k⟩, h1.1.2⟩
   rw [e, Bool.true_and, Bool.true_and]
   exact marks_same R ms m.f0 (by omega)
theorem scene_same (R E : Int) (gs : List GatT) (ms : List MarT) : sceneB R E gs ms = sceneF R E gs ms := by
 unfold sceneB sceneF
 rw [marks_same R ms (-1) (by omega), show gateB R = gateF R from funext fun g => gate_same R g]
 congr 2
 rw [Bool.eq_iff_iff]
 simp only [Bool.not_eq_true', Bool.or_eq_false_iff, Bool.not_eq_false', Bool.and_eq_true, decide_eq_true_eq, decide_eq_false_iff_not]
 constructor
 ·rintro ⟨⟨⟨h1, h2⟩, h3⟩, h4⟩
  exact ⟨⟨⟨h1, h2⟩, by omega⟩, by omega⟩
 ·rintro ⟨⟨⟨h1, h2⟩, h3⟩, h4⟩
  exact ⟨⟨⟨h1, h2⟩, by omega⟩, by omega⟩
theorem marksB_step (R : Int) {ms : List MarT} {k : Nat} (hk : k < ms.length) (last : Int) : marksB R last (ms.drop k) = ((markB R (ms.getD k zMar) && decide (last < (ms.getD k zMar).f0)) && marksB R (ms.getD k zMar).f0 (ms.drop (k + 1))) := by
 rw [drop_at ms zMar k hk, marksB]
def lastId (ms : List MarT) (k : Nat) : Int := if k = 0 then -1 else (ms.getD (k - 1) zMar).f0
set_option maxHeartbeats 8000000 in
theorem scene_calls (R E : Int) (A B : Option Addr) (c c2 : Nat) (gs : List GatT) (ms : List MarT) (w : World) (hA : RowOf gatV 4 zGat w A gs) (hM : RowOf marV 7 zMar w B ms) :
  Calls Tryd.prog 31 #[.agg (scnV R A gs.length c E B ms.length c2).toArray] w fun e w' => e = .returned (.bool (sceneF R E gs ms)) ∧ Below w.heap.size w w' := by
 rw [← scene_same]
 unfold sceneB
 refine x_calls (X := XNone) Tryd.func31 rfl rfl rfl ?_
 with_reducible ((repeat apply xc_seq); apply xcR)
 refine xo_box rfl rfl rfl rfl (fun b1 => ?_)
 refine xoA ?_
 with_reducible (apply xo_nil; (repeat first | apply xqT | apply xqB | apply xqS); (repeat apply xc_seq))
 refine xc_meet2 (γ := Unit) (fun _ => True) (fun _ => [(1, .pointer (some ⟨b1, 0, none⟩)), (27, .bool (!inF 1 6 R || !inF 0 600 E || decide ((6 : Int) < gs.length) || decide ((8 : Int) < ms.length)))]) (fun _ => [(b1, true, cel (scnV R A gs.length c E B ms.length c2) 25)]) ?_ (fun _ _ => ?_)
 ·with_reducible apply xcR
  refine xo_fa T_ rfl rfl rfl rfl rfl ?_
  refine xo_load0 T_ rfl rfl rfl (by repeat first | exact mH | apply mT | apply mA) rfl rfl ?_
  refine xo_callB (fs := []) (cs := []) rfl rfl rfl within_enters rfl (fun w1 hw1 => within_calls R 1 6 w1) ?_
  refine xo_notOp rfl rfl rfl ?_
  refine xoM ?_
  first
   | refine xo_lit (i := 10) (b := true) rfl ?_
   | refine xo_lit (i := 10) (b := false) rfl ?_
   | refine xo_split (i := 10) rfl rfl (fun h10 => ?_) (fun h10 => ?_)
  all_goals
   try simp only [decide_eq_true_eq, decide_eq_false_iff_not] at h10
   (first | refine xoN ?_ | refine xo_fa T_ rfl rfl rfl rfl rfl ?_)
   (first | refine xoN ?_ | refine xo_load0 T_ rfl rfl rfl (by repeat first | exact mH | apply mT | apply mA) rfl rfl ?_)
   (first | refine xoN ?_ | refine xo_callB (fs := []) (cs := []) rfl rfl rfl within_enters rfl (fun w1 hw1 => within_calls E 0 600 w1) ?_)
   (first | refine xoN ?_ | refine xo_notOp rfl rfl rfl ?_)
   first | refine xo_pickT rfl rfl rfl rfl ?_ | refine xo_pickF rfl rfl rfl rfl ?_
   refine xoM ?_
   first
    | refine xo_lit (i := 16) (b := true) rfl ?_
    | refine xo_lit (i := 16) (b := false) rfl ?_
    | refine xo_split (i := 16) rfl rfl (fun h16 => ?_) (fun h16 => ?_)
   all_goals
    try simp only [decide_eq_true_eq, decide_eq_false_iff_not] at h16
    (first | refine xoN ?_ | refine xo_fa T_ rfl rfl rfl rfl rfl ?_)
    (first | refine xoN ?_ | refine xo_load0 T_ rfl rfl rfl (by repeat first | exact mH | apply mT | apply mA) rfl rfl ?_)
    (first | refine xoN ?_ | refine xo_len T_ rfl rfl rfl rfl ?_)
    (first | refine xoN ?_ | refine xo_gtr rfl rfl rfl rfl ?_)
    first | refine xo_pickT rfl rfl rfl rfl ?_ | refine xo_pickF rfl rfl rfl rfl ?_
    refine xoM ?_
    first
     | refine xo_lit (i := 22) (b := true) rfl ?_
     | refine xo_lit (i := 22) (b := false) rfl ?_
     | refine xo_split (i := 22) rfl rfl (fun h22 => ?_) (fun h22 => ?_)
    all_goals
     try simp only [decide_eq_true_eq, decide_eq_false_iff_not] at h22
     (first | refine xoN ?_ | refine xo_fa T_ rfl rfl rfl rfl rfl ?_)
     (first | refine xoN ?_ | refine xo_load0 T_ rfl rfl rfl (by repeat first | exact mH | apply mT | apply mA) rfl rfl ?_)
     (first | refine xoN ?_ | refine xo_len T_ rfl rfl rfl rfl ?_)
     (first | refine xoN ?_ | refine xo_gtr rfl rfl rfl rfl ?_)
     first | refine xo_pickT rfl rfl rfl rfl ?_ | refine xo_pickF rfl rfl rfl rfl ?_
     with_reducible apply xo_nil
     exact xq_meet (fun _ => True) _ _ () trivial ⟨(by first | rfl | exact congrArg (fun b => some (Value.bool b)) (by first | simp [h10, h16, h22] | simp [h10, h16] | simp [h10] | simp [])), (by first | rfl | exact congrArg (fun b => some (Value.bool b)) (by first | simp [h10, h16, h22] | simp [h10, h16] | simp [h10] | simp [])), trivial⟩ (by repeat (first | exact List.Sublist.refl _ | apply List.Sublist.cons_cons | apply List.Sublist.cons | exact List.nil_sublist _))
 with_reducible (repeat first | apply xqT | apply xqB | apply xqS)
 cases h1 : (!inF 1 6 R || !inF 0 600 E || decide ((6 : Int) < gs.length) || decide ((8 : Int) < ms.length))
 rotate_left
 ·with_reducible repeat apply xc_seq
  refine xc_condT rfl ?_
  with_reducible ((repeat apply xc_seq); apply xcR)
  refine xoA ?_
  with_reducible (apply xo_nil; (repeat first | apply xqT | apply xqB | apply xqS); (repeat apply xc_seq); apply xc_ret; (repeat (first | apply xq_thenR | apply xq_blockR | apply xq_scopeR)))
  exact xq_ret1 rfl rfl fun w' hw => ⟨rfl, hw.kx.below⟩
 have hb : (1 ≤ R ∧ R ≤ 6) ∧ (0 ≤ E ∧ E ≤ 600) ∧ gs.length ≤ 6 ∧ ms.length ≤ 8 := by
  simp only [Bool.or_eq_false_iff, Bool.not_eq_false', decide_eq_false_iff_not] at h1
  exact ⟨inF_iff.1 h1.1.1.1, inF_iff.1 h1.1.1.2, by omega, by omega⟩
 clear h1
 obtain ⟨hR, hE, hg6, hm8⟩ := hb
 rw [Bool.not_false, Bool.true_and]
 with_reducible (repeat apply xc_seq)
 refine xc_condF rfl ?_
 with_reducible (apply xc_skip; (repeat first | apply xqT | apply xqB | apply xqS); (repeat apply xc_seq); apply xcR)
 refine xoA ?_
 with_reducible (apply xo_nil; (repeat first | apply xqT | apply xqB | apply xqS); (repeat apply xc_seq); apply xc_block)
 refine xc_loop (γ := Nat) (fun k => k ≤ gs.length ∧ ∀ j, j < k → gateB R (gs.getD j zGat) = true) (fun k => [(1, .pointer (some ⟨b1, 0, none⟩)), (3, .int .i64 (k : Int))]) (fun _ => [(b1, true, cel (scnV R A gs.length c E B ms.length c2) 25)]) (fun k => gs.length - k) 0 ⟨Nat.zero_le _, fun j hj => absurd hj (Nat.not_lt_zero _)⟩ ⟨rfl, rfl, trivial⟩ (List.Sublist.refl _) ?_
 rintro k ⟨hk, hall⟩
 with_reducible ((repeat apply xc_seq); apply xcR)
 refine xoM ?_
 refine xo_fa T_ rfl rfl rfl rfl rfl ?_
 refine xo_load0 T_ rfl rfl rfl (by repeat first | exact mH | apply mT | apply mA) rfl rfl ?_
 refine xo_len T_ rfl rfl rfl rfl ?_
 refine xo_lss rfl rfl rfl rfl ?_
 with_reducible (apply xo_nil; (repeat first | apply xqT | apply xqB | apply xqS); (repeat apply xc_seq))
 refine xc_cond rfl (fun h => ?_) (fun h => ?_)
 ·have hlt : k < gs.length := by have := of_decide_eq_true h; omega
  obtain ⟨ad, rfl, q1⟩ := hA k hlt
  have hmem := getD_mem gs zGat k hlt
  have hsk : gateB R (gs.getD k zGat) = true → ∀ j, j < k + 1 → gateB R (gs.getD j zGat) = true := fun h j hj => by
   by_cases e : j = k
   ·subst e; exact h
   ·exact hall j (by omega)
  generalize hgk : gs.getD k zGat = g at q1 hsk hmem
  with_reducible (apply xc_skip; (repeat first | apply xqT | apply xqB | apply xqS); (repeat apply xc_seq); apply xc_block; (repeat apply xc_seq); apply xcR)
  refine xo_fa T_ rfl rfl rfl rfl rfl ?_
  refine xo_load0 T_ rfl rfl rfl (by repeat first | exact mH | apply mT | apply mA) rfl rfl ?_
  refine xoM ?_
  refine xo_ia T_ rfl rfl rfl rfl rfl ⟨by omega, by omega⟩ rfl ?_
  refine xo_loadRN T_ rfl rfl rfl q1 rfl rfl ?_
  refine xo_alloc T_ rfl rfl rfl rfl (fun b4 => ?_)
  refine xo_store T_ rfl rfl rfl rfl (by repeat first | exact mH | apply mT | apply mA) rfl rfl rfl rfl (by repeat first | exact Upd.head | apply Upd.tail | apply Upd.app) rfl ?_
  with_reducible (apply xo_nil; (repeat first | apply xqT | apply xqB | apply xqS); (repeat apply xc_seq))
  refine xc_meet2 (γ := Unit) (fun _ => True) (fun _ => [(1, .pointer (some ⟨b1, 0, none⟩)), (3, .int .i64 (k : Int)), (89, .bool (!gateB R g))]) (fun _ => [(b1, true, cel (scnV R (some ad) gs.length c E B ms.length c2) 25)]) ?_ (fun _ _ => ?_)
  ·with_reducible apply xcR
   refine xo_fa T_ rfl rfl rfl rfl rfl ?_
   refine xo_load0 T_ rfl rfl rfl (by repeat first | exact mH | apply mT | apply mA) rfl rfl ?_
   refine xo_fa T_ rfl rfl rfl rfl rfl ?_
   refine xo_load0 T_ rfl rfl rfl (by repeat first | exact mH | apply mT | apply mA) rfl rfl ?_
   refine xo_sub rfl rfl rfl (by omega) rfl ?_
   refine xo_callB (fs := []) (cs := []) rfl rfl rfl within_enters rfl (fun w1 hw1 => within_calls g.f0 0 (R - 1) w1) ?_
   refine xo_notOp rfl rfl rfl ?_
   refine xoM ?_
   first
    | refine xo_lit (i := 47) (b := true) rfl ?_
    | refine xo_lit (i := 47) (b := false) rfl ?_
    | refine xo_split (i := 47) rfl rfl (fun h47 => ?_) (fun h47 => ?_)
   all_goals
    try simp only [decide_eq_true_eq, decide_eq_false_iff_not] at h47
    (first | refine xoN ?_ | refine xo_fa T_ rfl rfl rfl rfl rfl ?_)
    (first | refine xoN ?_ | refine xo_load0 T_ rfl rfl rfl (by repeat first | exact mH | apply mT | apply mA) rfl rfl ?_)
    (first | refine xoN ?_ | refine xo_fa T_ rfl rfl rfl rfl rfl ?_)
    (first | refine xoN ?_ | refine xo_load0 T_ rfl rfl rfl (by repeat first | exact mH | apply mT | apply mA) rfl rfl ?_)
    (first | refine xoN ?_ | refine xo_sub rfl rfl rfl (by omega) rfl ?_)
    (first | refine xoN ?_ | refine xo_callB (fs := []) (cs := []) rfl rfl rfl within_enters rfl (fun w1 hw1 => within_calls g.f1 0 (R - 1) w1) ?_)
    (first | refine xoN ?_ | refine xo_notOp rfl rfl rfl ?_)
    first | refine xo_pickT rfl rfl rfl rfl ?_ | refine xo_pickF rfl rfl rfl rfl ?_
    refine xoM ?_
    first
     | refine xo_lit (i := 56) (b := true) rfl ?_
     | refine xo_lit (i := 56) (b := false) rfl ?_
     | refine xo_split (i := 56) rfl rfl (fun h56 => ?_) (fun h56 => ?_)
    all_goals
     try simp only [decide_eq_true_eq, decide_eq_false_iff_not] at h56
     (first | refine xoN ?_ | refine xo_fa T_ rfl rfl rfl rfl rfl ?_)
     (first | refine xoN ?_ | refine xo_load0 T_ rfl rfl rfl (by repeat first | exact mH | apply mT | apply mA) rfl rfl ?_)
     (first | refine xoN ?_ | refine xo_fa T_ rfl rfl rfl rfl rfl ?_)
     (first | refine xoN ?_ | refine xo_load0 T_ rfl rfl rfl (by repeat first | exact mH | apply mT | apply mA) rfl rfl ?_)
     (first | refine xoN ?_ | refine xo_eql rfl rfl rfl rfl ?_)
     first | refine xo_pickT rfl rfl rfl rfl ?_ | refine xo_pickF rfl rfl rfl rfl ?_
     refine xoM ?_
     first
      | refine xo_lit (i := 63) (b := true) rfl ?_
      | refine xo_lit (i := 63) (b := false) rfl ?_
      | refine xo_split (i := 63) rfl rfl (fun h63 => ?_) (fun h63 => ?_)
     all_goals
      try simp only [decide_eq_true_eq, decide_eq_false_iff_not] at h63
      (first | refine xoN ?_ | refine xo_fa T_ rfl rfl rfl rfl rfl ?_)
      (first | refine xoN ?_ | refine xo_fa T_ rfl rfl rfl rfl rfl ?_)
      (first | refine xoN ?_ | refine xo_load0 T_ rfl rfl rfl (by repeat first | exact mH | apply mT | apply mA) rfl rfl ?_)
      (first | refine xoN ?_ | refine xo_callB (fs := []) (cs := []) rfl rfl rfl within_enters rfl (fun w1 hw1 => within_calls g.f2.f0 0 60 w1) ?_)
      (first | refine xoN ?_ | refine xo_notOp rfl rfl rfl ?_)
      first | refine xo_pickT rfl rfl rfl rfl ?_ | refine xo_pickF rfl rfl rfl rfl ?_
      refine xoM ?_
      first
       | refine xo_lit (i := 70) (b := true) rfl ?_
       | refine xo_lit (i := 70) (b := false) rfl ?_
       | refine xo_split (i := 70) rfl rfl (fun h70 => ?_) (fun h70 => ?_)
      all_goals
       try simp only [decide_eq_true_eq, decide_eq_false_iff_not] at h70
       (first | refine xoN ?_ | refine xo_fa T_ rfl rfl rfl rfl rfl ?_)
       (first | refine xoN ?_ | refine xo_fa T_ rfl rfl rfl rfl rfl ?_)
       (first | refine xoN ?_ | refine xo_load0 T_ rfl rfl rfl (by repeat first | exact mH | apply mT | apply mA) rfl rfl ?_)
       (first | refine xoN ?_ | refine xo_fa T_ rfl rfl rfl rfl rfl ?_)
       (first | refine xoN ?_ | refine xo_fa T_ rfl rfl rfl rfl rfl ?_)
       (first | refine xoN ?_ | refine xo_load0 T_ rfl rfl rfl (by repeat first | exact mH | apply mT | apply mA) rfl rfl ?_)
       (first | refine xoN ?_ | refine xo_fa T_ rfl rfl rfl rfl rfl ?_)
       (first | refine xoN ?_ | refine xo_fa T_ rfl rfl rfl rfl rfl ?_)
       (first | refine xoN ?_ | refine xo_load0 T_ rfl rfl rfl (by repeat first | exact mH | apply mT | apply mA) rfl rfl ?_)
       (first | refine xoN ?_ | (refine xo_add rfl rfl rfl (by have := inF_iff.1 (show inF 0 60 g.f2.f0 = true by simpa using h70); omega) rfl ?_))
       (first | refine xoN ?_ | refine xo_callB (fs := []) (cs := []) rfl rfl rfl within_enters rfl (fun w1 hw1 => within_calls g.f2.f1 g.f2.f0 (g.f2.f0 + 2) w1) ?_)
       (first | refine xoN ?_ | refine xo_notOp rfl rfl rfl ?_)
       first | refine xo_pickT rfl rfl rfl rfl ?_ | refine xo_pickF rfl rfl rfl rfl ?_
       refine xoM ?_
       first
        | refine xo_lit (i := 84) (b := true) rfl ?_
        | refine xo_lit (i := 84) (b := false) rfl ?_
        | refine xo_split (i := 84) rfl rfl (fun h84 => ?_) (fun h84 => ?_)
       all_goals
        try simp only [decide_eq_true_eq, decide_eq_false_iff_not] at h84
        (first | refine xoN ?_ | refine xo_fa T_ rfl rfl rfl rfl rfl ?_)
        (first | refine xoN ?_ | refine xo_fa T_ rfl rfl rfl rfl rfl ?_)
        (first | refine xoN ?_ | refine xo_load0 T_ rfl rfl rfl (by repeat first | exact mH | apply mT | apply mA) rfl rfl ?_)
        (first | refine xoN ?_ | refine xo_gtr rfl rfl rfl rfl ?_)
        first | refine xo_pickT rfl rfl rfl rfl ?_ | refine xo_pickF rfl rfl rfl rfl ?_
        with_reducible apply xo_nil
        exact xq_meet (fun _ => True) _ _ () trivial ⟨(by first | rfl | exact congrArg (fun b => some (Value.bool b)) (by first | simp [h47, h56, h63, h70, h84, gateB] | simp [h47, h56, h63, h70, gateB] | simp [h47, h56, h63, gateB] | simp [h47, h56, gateB] | simp [h47, gateB] | simp [gateB])), (by first | rfl | exact congrArg (fun b => some (Value.bool b)) (by first | simp [h47, h56, h63, h70, h84, gateB] | simp [h47, h56, h63, h70, gateB] | simp [h47, h56, h63, gateB] | simp [h47, h56, gateB] | simp [h47, gateB] | simp [gateB])), (by first | rfl | exact congrArg (fun b => some (Value.bool b)) (by first | simp [h47, h56, h63, h70, h84, gateB] | simp [h47, h56, h63, h70, gateB] | simp [h47, h56, h63, gateB] | simp [h47, h56, gateB] | simp [h47, gateB] | simp [gateB])), trivial⟩ (by repeat (first | exact List.Sublist.refl _ | apply List.Sublist.cons_cons | apply List.Sublist.cons | exact List.nil_sublist _))
  with_reducible (repeat first | apply xqT | apply xqB | apply xqS)
  cases hq : gateB R g
  ·have e1 : gs.all (gateB R) = false := List.all_eq_false.2 ⟨g, hmem, by rw [hq]; exact Bool.false_ne_true⟩
   rw [e1]
   with_reducible (repeat apply xc_seq)
   refine xc_condT rfl ?_
   with_reducible ((repeat apply xc_seq); apply xcR)
   refine xoA ?_
   with_reducible (apply xo_nil; (repeat first | apply xqT | apply xqB | apply xqS); (repeat apply xc_seq); apply xc_ret; (repeat (first | apply xq_thenR | apply xq_blockR | apply xq_scopeR)))
   exact xq_ret1 rfl rfl fun w' hw => ⟨rfl, hw.kx.below⟩
  ·with_reducible repeat apply xc_seq
   refine xc_condF rfl ?_
   with_reducible (apply xc_skip; (repeat first | apply xqT | apply xqB | apply xqS); (repeat apply xc_seq); apply xcR)
   refine xoM ?_
   refine xo_add rfl rfl rfl (by omega) rfl ?_
   refine xoA ?_
   with_reducible (apply xo_nil; (repeat first | apply xqT | apply xqB | apply xqS))
   exact xq_again _ _ _ _ _ (k + 1) ⟨hlt, hsk hq⟩ (by omega) ⟨rfl, rfl, trivial⟩ (List.Sublist.refl _)
 have hge : k = gs.length := by have := of_decide_eq_false h; omega
 have e1 : gs.all (gateB R) = true := List.all_eq_true.2 fun g hg => by
  obtain ⟨j, hj, rfl⟩ := List.getElem_of_mem hg
  have := hall j (by omega)
  rwa [show gs.getD j zGat = gs[j] by simp [List.getD_eq_getElem?_getD, List.getElem?_eq_getElem hj]] at this
 rw [e1, Bool.true_and]
 clear e1 hall
 subst hge
 with_reducible (apply xc_exit; (repeat (first | apply xq_blockX | apply xq_thenE | refine xq_blockE rfl ?_ | apply xq_scopeE)); (repeat first | apply xqT | apply xqB | apply xqS); (repeat apply xc_seq); apply xcR)
 refine xoA ?_
 with_reducible (apply xo_nil; (repeat first | apply xqT | apply xqB | apply xqS); (repeat apply xc_seq); apply xc_block)
 refine xc_loop (γ := Nat) (fun k => k ≤ ms.length ∧ marksB R (-1) ms = marksB R (lastId ms k) (ms.drop k)) (fun k => [(1, .pointer (some ⟨b1, 0, none⟩)), (5, .int .i64 (k : Int))]) (fun _ => [(b1, true, cel (scnV R A gs.length c E B ms.length c2) 25)]) (fun k => ms.length - k) 0 ⟨Nat.zero_le _, rfl⟩ ⟨rfl, rfl, trivial⟩ (List.Sublist.refl _) ?_
 rintro k ⟨hk, hall⟩
 with_reducible ((repeat apply xc_seq); apply xcR)
 refine xoM ?_
 refine xo_fa T_ rfl rfl rfl rfl rfl ?_
 refine xo_load0 T_ rfl rfl rfl (by repeat first | exact mH | apply mT | apply mA) rfl rfl ?_
 refine xo_len T_ rfl rfl rfl rfl ?_
 refine xo_lss rfl rfl rfl rfl ?_
 with_reducible (apply xo_nil; (repeat first | apply xqT | apply xqB | apply xqS); (repeat apply xc_seq))
 refine xc_cond rfl (fun h => ?_) (fun h => ?_)
 ·have hlt : k < ms.length := by have := of_decide_eq_true h; omega
  obtain ⟨ad, rfl, q1⟩ := hM k hlt
  rw [marksB_step R hlt] at hall
  have hnx : lastId ms (k + 1) = (ms.getD k zMar).f0 := by unfold lastId; rw [if_neg (by omega)]; rfl
  with_reducible (apply xc_skip; (repeat first | apply xqT | apply xqB | apply xqS); (repeat apply xc_seq); apply xc_block)
  refine xc_slots [(1, .pointer (some ⟨b1, 0, none⟩)), (5, .int .i64 (k : Int))] ⟨rfl, rfl, trivial⟩ ?_
  cases hq : markB R (ms.getD k zMar)
  ·rw [hq, Bool.false_and, Bool.false_and] at hall
   rw [hall]
   generalize ms.getD k zMar = m at q1 hq
   have hq' : (!markB R m) = true := by rw [hq]; rfl
   with_reducible (repeat apply xc_seq)
   apply xc_drawN
   ·exact T_.mixed
   ·rfl
   ·rfl
   ·rfl
   ·rfl
   ·apply DrawOps.cons
    ·intro τ
     refine xo_loadN T_ rfl rfl rfl (by repeat first | exact mH | apply mT | apply mA) rfl rfl ?_
     exact xo_fin rfl
    apply DrawOps.cons
    ·intro τ
     refine xo_fa T_ rfl rfl rfl rfl rfl ?_
     exact xo_fin rfl
    apply DrawOps.cons
    ·intro τ
     refine xo_load0 T_ rfl rfl rfl (by repeat first | exact mH | apply mT | apply mA) rfl rfl ?_
     exact xo_fin rfl
    apply DrawOps.cons
    ·intro τ
     refine xoM ?_
     exact xo_fin rfl
    apply DrawOps.cons
    ·intro τ
     refine xo_ia T_ rfl rfl rfl rfl rfl ⟨by omega, by omega⟩ rfl ?_
     exact xo_fin rfl
    apply DrawOps.cons
    ·intro τ
     refine xo_loadRN T_ rfl rfl rfl q1 rfl rfl ?_
     exact xo_fin rfl
    apply DrawOps.cons
    ·intro τ
     refine xo_callB (fs := []) (cs := []) rfl rfl rfl mark_enters rfl (fun w1 hw1 => mark_calls R E A (some ad) gs.length c ms.length c2 m w1 hR) ?_
     exact xo_fin rfl
    apply DrawOps.cons
    ·intro τ
     refine xo_notOp rfl rfl rfl ?_
     first
      | exact xo_fin (congrArg Value.bool hq')
      | exact xo_fin rfl
    apply DrawOps.cons
    ·intro τ
     refine xoM ?_
     exact xo_fin rfl
    apply DrawOps.cons
    ·intro τ
     (first | refine xoN ?_ | refine xoM ?_)
     exact xo_fin rfl
    apply DrawOps.cons
    ·intro τ
     (first | refine xoN ?_ | refine xo_gtr rfl rfl rfl rfl ?_)
     exact xo_fin rfl
    apply DrawOps.cons
    ·intro τ
     (first | refine xoN ?_ | refine xoM ?_)
     exact xo_fin rfl
    apply DrawOps.cons
    ·intro τ
     (first | refine xoN ?_ | refine xo_fa T_ rfl rfl rfl rfl rfl ?_)
     exact xo_fin rfl
    apply DrawOps.cons
    ·intro τ
     (first | refine xoN ?_ | refine xo_load0 T_ rfl rfl rfl (by repeat first | exact mH | apply mT | apply mA) rfl rfl ?_)
     exact xo_fin rfl
    apply DrawOps.cons
    ·intro τ
     (first | refine xoN ?_ | refine xoM ?_)
     exact xo_fin rfl
    apply DrawOps.cons
    ·intro τ
     (first | refine xoN ?_ | refine xo_ia T_ rfl rfl rfl rfl rfl ⟨by omega, by omega⟩ rfl ?_)
     exact xo_fin rfl
    apply DrawOps.cons
    ·intro τ
     (first | refine xoN ?_ | refine xo_faR T_ rfl rfl rfl rfl rfl ?_)
     exact xo_fin rfl
    apply DrawOps.cons
    ·intro τ
     (first | refine xoN ?_ | refine xo_loadR0 T_ rfl rfl rfl (by first | assumption | exact RO.fld (by assumption) rfl) rfl ?_)
     exact xo_fin rfl
    apply DrawOps.cons
    ·intro τ
     (first | refine xoN ?_ | refine xo_fa T_ rfl rfl rfl rfl rfl ?_)
     exact xo_fin rfl
    apply DrawOps.cons
    ·intro τ
     (first | refine xoN ?_ | refine xo_load0 T_ rfl rfl rfl (by repeat first | exact mH | apply mT | apply mA) rfl rfl ?_)
     exact xo_fin rfl
    apply DrawOps.cons
    ·intro τ
     (first | refine xoN ?_ | refine xoM ?_)
     exact xo_fin rfl
    apply DrawOps.cons
    ·intro τ
     (first | refine xoN ?_ | refine xo_sub rfl rfl rfl (by omega) rfl ?_)
     exact xo_fin rfl
    apply DrawOps.cons
    ·intro τ
     (first | refine xoN ?_ | refine xo_ia T_ rfl rfl rfl rfl rfl ⟨by omega, by omega⟩ rfl ?_)
     exact xo_fin rfl
    apply DrawOps.cons
    ·intro τ
     (first | refine xoN ?_ | refine xo_faR T_ rfl rfl rfl rfl rfl ?_)
     exact xo_fin rfl
    apply DrawOps.cons
    ·intro τ
     (first | refine xoN ?_ | refine xo_loadR0 T_ rfl rfl rfl (by first | assumption | exact RO.fld (by assumption) rfl) rfl ?_)
     exact xo_fin rfl
    apply DrawOps.cons
    ·intro τ
     (first | refine xoN ?_ | refine xo_leq rfl rfl rfl rfl ?_)
     exact xo_fin rfl
    apply DrawOps.cons
    ·intro τ
     (first | refine xoN ?_ | (first | refine xo_pickT rfl rfl rfl rfl ?_ | refine xo_pickF rfl rfl rfl rfl ?_))
     exact xo_fin rfl
    apply DrawOps.cons
    ·intro τ
     first | refine xo_pickT rfl rfl rfl rfl ?_ | refine xo_pickF rfl rfl rfl rfl ?_
     exact xo_fin rfl
    exact DrawOps.nil
   ·rfl
   with_reducible ((repeat first | apply xqT | apply xqB | apply xqS); (repeat apply xc_seq))
   refine xc_condT rfl ?_
   with_reducible ((repeat apply xc_seq); apply xcR)
   refine xoA ?_
   with_reducible (apply xo_nil; (repeat first | apply xqT | apply xqB | apply xqS); (repeat apply xc_seq); apply xc_ret; (repeat (first | apply xq_thenR | apply xq_blockR | apply xq_scopeR)))
   exact xq_ret1 rfl rfl fun w' hw => ⟨rfl, hw.kx.below⟩
  rw [hq, Bool.true_and] at hall
  have hq' : (!markB R (ms.getD k zMar)) = false := by rw [hq]; rfl
  have hid0 : 0 ≤ (ms.getD k zMar).f0 := by
   simp only [markB, Bool.and_eq_true] at hq
   exact (inF_iff.1 hq.1.1).1
  by_cases hk0 : k = 0
  ·subst hk0
   have e2 : decide (lastId ms 0 < (ms.getD 0 zMar).f0) = true := by
    unfold lastId
    rw [if_pos rfl, decide_eq_true_eq]
    omega
   rw [e2, Bool.true_and] at hall
   generalize ms.getD 0 zMar = m at q1 hq hq' hall hnx hid0
   have hz : decide ((0 : Int) < ((0 : Nat) : Int)) = false := rfl
   with_reducible (repeat apply xc_seq)
   apply xc_drawN
   ·exact T_.mixed
   ·rfl
   ·rfl
   ·rfl
   ·rfl
   ·apply DrawOps.cons
    ·intro τ
     refine xo_loadN T_ rfl rfl rfl (by repeat first | exact mH | apply mT | apply mA) rfl rfl ?_
     exact xo_fin rfl
    apply DrawOps.cons
    ·intro τ
     refine xo_fa T_ rfl rfl rfl rfl rfl ?_
     exact xo_fin rfl
    apply DrawOps.cons
    ·intro τ
     refine xo_load0 T_ rfl rfl rfl (by repeat first | exact mH | apply mT | apply mA) rfl rfl ?_
     exact xo_fin rfl
    apply DrawOps.cons
    ·intro τ
     refine xoM ?_
     exact xo_fin rfl
    apply DrawOps.cons
    ·intro τ
     refine xo_ia T_ rfl rfl rfl rfl rfl ⟨by omega, by omega⟩ rfl ?_
     exact xo_fin rfl
    apply DrawOps.cons
    ·intro τ
     refine xo_loadRN T_ rfl rfl rfl q1 rfl rfl ?_
     exact xo_fin rfl
    apply DrawOps.cons
    ·intro τ
     refine xo_callB (fs := []) (cs := []) rfl rfl rfl mark_enters rfl (fun w1 hw1 => mark_calls R E A (some ad) gs.length c ms.length c2 m w1 hR) ?_
     exact xo_fin rfl
    apply DrawOps.cons
    ·intro τ
     refine xo_notOp rfl rfl rfl ?_
     first
      | exact xo_fin (congrArg Value.bool hq')
      | exact xo_fin rfl
    apply DrawOps.cons
    ·intro τ
     refine xoM ?_
     exact xo_fin rfl
    apply DrawOps.cons
    ·intro τ
     (first | refine xoN ?_ | refine xoM ?_)
     exact xo_fin rfl
    apply DrawOps.cons
    ·intro τ
     (first | refine xoN ?_ | refine xo_gtr rfl rfl rfl rfl ?_)
     first
      | exact xo_fin (congrArg Value.bool hz)
      | exact xo_fin rfl
    apply DrawOps.cons
    ·intro τ
     (first | refine xoN ?_ | refine xoM ?_)
     exact xo_fin rfl
    apply DrawOps.cons
    ·intro τ
     (first | refine xoN ?_ | refine xo_fa T_ rfl rfl rfl rfl rfl ?_)
     exact xo_fin rfl
    apply DrawOps.cons
    ·intro τ
     (first | refine xoN ?_ | refine xo_load0 T_ rfl rfl rfl (by repeat first | exact mH | apply mT | apply mA) rfl rfl ?_)
     exact xo_fin rfl
    apply DrawOps.cons
    ·intro τ
     (first | refine xoN ?_ | refine xoM ?_)
     exact xo_fin rfl
    apply DrawOps.cons
    ·intro τ
     (first | refine xoN ?_ | refine xo_ia T_ rfl rfl rfl rfl rfl ⟨by omega, by omega⟩ rfl ?_)
     exact xo_fin rfl
    apply DrawOps.cons
    ·intro τ
     (first | refine xoN ?_ | refine xo_faR T_ rfl rfl rfl rfl rfl ?_)
     exact xo_fin rfl
    apply DrawOps.cons
    ·intro τ
     (first | refine xoN ?_ | refine xo_loadR0 T_ rfl rfl rfl (by first | assumption | exact RO.fld (by assumption) rfl) rfl ?_)
     exact xo_fin rfl
    apply DrawOps.cons
    ·intro τ
     (first | refine xoN ?_ | refine xo_fa T_ rfl rfl rfl rfl rfl ?_)
     exact xo_fin rfl
    apply DrawOps.cons
    ·intro τ
     (first | refine xoN ?_ | refine xo_load0 T_ rfl rfl rfl (by repeat first | exact mH | apply mT | apply mA) rfl rfl ?_)
     exact xo_fin rfl
    apply DrawOps.cons
    ·intro τ
     (first | refine xoN ?_ | refine xoM ?_)
     exact xo_fin rfl
    apply DrawOps.cons
    ·intro τ
     (first | refine xoN ?_ | refine xo_sub rfl rfl rfl (by omega) rfl ?_)
     exact xo_fin rfl
    apply DrawOps.cons
    ·intro τ
     (first | refine xoN ?_ | refine xo_ia T_ rfl rfl rfl rfl rfl ⟨by omega, by omega⟩ rfl ?_)
     exact xo_fin rfl
    apply DrawOps.cons
    ·intro τ
     (first | refine xoN ?_ | refine xo_faR T_ rfl rfl rfl rfl rfl ?_)
     exact xo_fin rfl
    apply DrawOps.cons
    ·intro τ
     (first | refine xoN ?_ | refine xo_loadR0 T_ rfl rfl rfl (by first | assumption | exact RO.fld (by assumption) rfl) rfl ?_)
     exact xo_fin rfl
    apply DrawOps.cons
    ·intro τ
     (first | refine xoN ?_ | refine xo_leq rfl rfl rfl rfl ?_)
     exact xo_fin rfl
    apply DrawOps.cons
    ·intro τ
     (first | refine xoN ?_ | (first | refine xo_pickT rfl rfl rfl rfl ?_ | refine xo_pickF rfl rfl rfl rfl ?_))
     exact xo_fin rfl
    apply DrawOps.cons
    ·intro τ
     first | refine xo_pickT rfl rfl rfl rfl ?_ | refine xo_pickF rfl rfl rfl rfl ?_
     exact xo_fin rfl
    exact DrawOps.nil
   ·rfl
   with_reducible ((repeat first | apply xqT | apply xqB | apply xqS); (repeat apply xc_seq))
   refine xc_condF rfl ?_
   with_reducible (apply xc_skip; (repeat first | apply xqT | apply xqB | apply xqS); (repeat apply xc_seq); apply xcR)
   refine xoM ?_
   refine xo_add rfl rfl rfl (by omega) rfl ?_
   refine xoA ?_
   with_reducible (apply xo_nil; (repeat first | apply xqT | apply xqB | apply xqS))
   exact xq_again _ _ _ _ _ (0 + 1) ⟨hlt, by rw [hall, hnx]⟩ (by omega) ⟨rfl, rfl, trivial⟩ (List.Sublist.refl _)
  obtain ⟨ad0, e0, q0⟩ := hM (k - 1) (by omega)
  cases e0
  rw [show ((k - 1 : Nat) : Int) = (k : Int) - 1 by omega] at q0
  have hpos : decide ((0 : Int) < (k : Int)) = true := by rw [decide_eq_true_eq]; omega
  have hli : lastId ms k = (ms.getD (k - 1) zMar).f0 := by unfold lastId; rw [if_neg hk0]
  rw [hli] at hall
  generalize ms.getD k zMar = m at q1 hq hq' hall hnx hid0
  generalize ms.getD (k - 1) zMar = m0 at q0 hall
  cases hid : decide (m0.f0 < m.f0)
  ·rw [hid, Bool.false_and] at hall
   rw [hall]
   have hle : decide (m.f0 ≤ m0.f0) = true := by have := of_decide_eq_false hid; rw [decide_eq_true_eq]; omega
   with_reducible (repeat apply xc_seq)
   apply xc_drawN
   ·exact T_.mixed
   ·rfl
   ·rfl
   ·rfl
   ·rfl
   ·apply DrawOps.cons
    ·intro τ
     refine xo_loadN T_ rfl rfl rfl (by repeat first | exact mH | apply mT | apply mA) rfl rfl ?_
     exact xo_fin rfl
    apply DrawOps.cons
    ·intro τ
     refine xo_fa T_ rfl rfl rfl rfl rfl ?_
     exact xo_fin rfl
    apply DrawOps.cons
    ·intro τ
     refine xo_load0 T_ rfl rfl rfl (by repeat first | exact mH | apply mT | apply mA) rfl rfl ?_
     exact xo_fin rfl
    apply DrawOps.cons
    ·intro τ
     refine xoM ?_
     exact xo_fin rfl
    apply DrawOps.cons
    ·intro τ
     refine xo_ia T_ rfl rfl rfl rfl rfl ⟨by omega, by omega⟩ rfl ?_
     exact xo_fin rfl
    apply DrawOps.cons
    ·intro τ
     refine xo_loadRN T_ rfl rfl rfl q1 rfl rfl ?_
     exact xo_fin rfl
    apply DrawOps.cons
    ·intro τ
     refine xo_callB (fs := []) (cs := []) rfl rfl rfl mark_enters rfl (fun w1 hw1 => mark_calls R E A (some ad) gs.length c ms.length c2 m w1 hR) ?_
     exact xo_fin rfl
    apply DrawOps.cons
    ·intro τ
     refine xo_notOp rfl rfl rfl ?_
     first
      | exact xo_fin (congrArg Value.bool hq')
      | exact xo_fin rfl
    apply DrawOps.cons
    ·intro τ
     refine xoM ?_
     exact xo_fin rfl
    apply DrawOps.cons
    ·intro τ
     (first | refine xoN ?_ | refine xoM ?_)
     exact xo_fin rfl
    apply DrawOps.cons
    ·intro τ
     (first | refine xoN ?_ | refine xo_gtr rfl rfl rfl rfl ?_)
     first
      | exact xo_fin (congrArg Value.bool hpos)
      | exact xo_fin rfl
    apply DrawOps.cons
    ·intro τ
     (first | refine xoN ?_ | refine xoM ?_)
     exact xo_fin rfl
    apply DrawOps.cons
    ·intro τ
     (first | refine xoN ?_ | refine xo_fa T_ rfl rfl rfl rfl rfl ?_)
     exact xo_fin rfl
    apply DrawOps.cons
    ·intro τ
     (first | refine xoN ?_ | refine xo_load0 T_ rfl rfl rfl (by repeat first | exact mH | apply mT | apply mA) rfl rfl ?_)
     exact xo_fin rfl
    apply DrawOps.cons
    ·intro τ
     (first | refine xoN ?_ | refine xoM ?_)
     exact xo_fin rfl
    apply DrawOps.cons
    ·intro τ
     (first | refine xoN ?_ | refine xo_ia T_ rfl rfl rfl rfl rfl ⟨by omega, by omega⟩ rfl ?_)
     exact xo_fin rfl
    apply DrawOps.cons
    ·intro τ
     (first | refine xoN ?_ | refine xo_faR T_ rfl rfl rfl rfl rfl ?_)
     exact xo_fin rfl
    apply DrawOps.cons
    ·intro τ
     (first | refine xoN ?_ | refine xo_loadR0 T_ rfl rfl rfl (RO.fld q1 rfl) rfl ?_)
     exact xo_fin rfl
    apply DrawOps.cons
    ·intro τ
     (first | refine xoN ?_ | refine xo_fa T_ rfl rfl rfl rfl rfl ?_)
     exact xo_fin rfl
    apply DrawOps.cons
    ·intro τ
     (first | refine xoN ?_ | refine xo_load0 T_ rfl rfl rfl (by repeat first | exact mH | apply mT | apply mA) rfl rfl ?_)
     exact xo_fin rfl
    apply DrawOps.cons
    ·intro τ
     (first | refine xoN ?_ | refine xoM ?_)
     exact xo_fin rfl
    apply DrawOps.cons
    ·intro τ
     (first | refine xoN ?_ | refine xo_sub rfl rfl rfl (by omega) rfl ?_)
     exact xo_fin rfl
    apply DrawOps.cons
    ·intro τ
     (first | refine xoN ?_ | refine xo_ia T_ rfl rfl rfl rfl rfl ⟨by omega, by omega⟩ rfl ?_)
     exact xo_fin rfl
    apply DrawOps.cons
    ·intro τ
     (first | refine xoN ?_ | refine xo_faR T_ rfl rfl rfl rfl rfl ?_)
     exact xo_fin rfl
    apply DrawOps.cons
    ·intro τ
     (first | refine xoN ?_ | refine xo_loadR0 T_ rfl rfl rfl (RO.fld q0 rfl) rfl ?_)
     exact xo_fin rfl
    apply DrawOps.cons
    ·intro τ
     (first | refine xoN ?_ | refine xo_leq rfl rfl rfl rfl ?_)
     first
      | exact xo_fin (congrArg Value.bool hle)
      | exact xo_fin rfl
    apply DrawOps.cons
    ·intro τ
     (first | refine xoN ?_ | (first | refine xo_pickT rfl rfl rfl rfl ?_ | refine xo_pickF rfl rfl rfl rfl ?_))
     exact xo_fin rfl
    apply DrawOps.cons
    ·intro τ
     first | refine xo_pickT rfl rfl rfl rfl ?_ | refine xo_pickF rfl rfl rfl rfl ?_
     exact xo_fin rfl
    exact DrawOps.nil
   ·rfl
   with_reducible ((repeat first | apply xqT | apply xqB | apply xqS); (repeat apply xc_seq))
   refine xc_condT rfl ?_
   with_reducible ((repeat apply xc_seq); apply xcR)
   refine xoA ?_
   with_reducible (apply xo_nil; (repeat first | apply xqT | apply xqB | apply xqS); (repeat apply xc_seq); apply xc_ret; (repeat (first | apply xq_thenR | apply xq_blockR | apply xq_scopeR)))
   exact xq_ret1 rfl rfl fun w' hw => ⟨rfl, hw.kx.below⟩
  ·rw [hid, Bool.true_and] at hall
   have hle : decide (m.f0 ≤ m0.f0) = false := by have := of_decide_eq_true hid; rw [decide_eq_false_iff_not]; omega
   with_reducible (repeat apply xc_seq)
   apply xc_drawN
   ·exact T_.mixed
   ·rfl
   ·rfl
   ·rfl
   ·rfl
   ·apply DrawOps.cons
    ·intro τ
     refine xo_loadN T_ rfl rfl rfl (by repeat first | exact mH | apply mT | apply mA) rfl rfl ?_
     exact xo_fin rfl
    apply DrawOps.cons
    ·intro τ
     refine xo_fa T_ rfl rfl rfl rfl rfl ?_
     exact xo_fin rfl
    apply DrawOps.cons
    ·intro τ
     refine xo_load0 T_ rfl rfl rfl (by repeat first | exact mH | apply mT | apply mA) rfl rfl ?_
     exact xo_fin rfl
    apply DrawOps.cons
    ·intro τ
     refine xoM ?_
     exact xo_fin rfl
    apply DrawOps.cons
    ·intro τ
     refine xo_ia T_ rfl rfl rfl rfl rfl ⟨by omega, by omega⟩ rfl ?_
     exact xo_fin rfl
    apply DrawOps.cons
    ·intro τ
     refine xo_loadRN T_ rfl rfl rfl q1 rfl rfl ?_
     exact xo_fin rfl
    apply DrawOps.cons
    ·intro τ
     refine xo_callB (fs := []) (cs := []) rfl rfl rfl mark_enters rfl (fun w1 hw1 => mark_calls R E A (some ad) gs.length c ms.length c2 m w1 hR) ?_
     exact xo_fin rfl
    apply DrawOps.cons
    ·intro τ
     refine xo_notOp rfl rfl rfl ?_
     first
      | exact xo_fin (congrArg Value.bool hq')
      | exact xo_fin rfl
    apply DrawOps.cons
    ·intro τ
     refine xoM ?_
     exact xo_fin rfl
    apply DrawOps.cons
    ·intro τ
     (first | refine xoN ?_ | refine xoM ?_)
     exact xo_fin rfl
    apply DrawOps.cons
    ·intro τ
     (first | refine xoN ?_ | refine xo_gtr rfl rfl rfl rfl ?_)
     first
      | exact xo_fin (congrArg Value.bool hpos)
      | exact xo_fin rfl
    apply DrawOps.cons
    ·intro τ
     (first | refine xoN ?_ | refine xoM ?_)
     exact xo_fin rfl
    apply DrawOps.cons
    ·intro τ
     (first | refine xoN ?_ | refine xo_fa T_ rfl rfl rfl rfl rfl ?_)
     exact xo_fin rfl
    apply DrawOps.cons
    ·intro τ
     (first | refine xoN ?_ | refine xo_load0 T_ rfl rfl rfl (by repeat first | exact mH | apply mT | apply mA) rfl rfl ?_)
     exact xo_fin rfl
    apply DrawOps.cons
    ·intro τ
     (first | refine xoN ?_ | refine xoM ?_)
     exact xo_fin rfl
    apply DrawOps.cons
    ·intro τ
     (first | refine xoN ?_ | refine xo_ia T_ rfl rfl rfl rfl rfl ⟨by omega, by omega⟩ rfl ?_)
     exact xo_fin rfl
    apply DrawOps.cons
    ·intro τ
     (first | refine xoN ?_ | refine xo_faR T_ rfl rfl rfl rfl rfl ?_)
     exact xo_fin rfl
    apply DrawOps.cons
    ·intro τ
     (first | refine xoN ?_ | refine xo_loadR0 T_ rfl rfl rfl (RO.fld q1 rfl) rfl ?_)
     exact xo_fin rfl
    apply DrawOps.cons
    ·intro τ
     (first | refine xoN ?_ | refine xo_fa T_ rfl rfl rfl rfl rfl ?_)
     exact xo_fin rfl
    apply DrawOps.cons
    ·intro τ
     (first | refine xoN ?_ | refine xo_load0 T_ rfl rfl rfl (by repeat first | exact mH | apply mT | apply mA) rfl rfl ?_)
     exact xo_fin rfl
    apply DrawOps.cons
    ·intro τ
     (first | refine xoN ?_ | refine xoM ?_)
     exact xo_fin rfl
    apply DrawOps.cons
    ·intro τ
     (first | refine xoN ?_ | refine xo_sub rfl rfl rfl (by omega) rfl ?_)
     exact xo_fin rfl
    apply DrawOps.cons
    ·intro τ
     (first | refine xoN ?_ | refine xo_ia T_ rfl rfl rfl rfl rfl ⟨by omega, by omega⟩ rfl ?_)
     exact xo_fin rfl
    apply DrawOps.cons
    ·intro τ
     (first | refine xoN ?_ | refine xo_faR T_ rfl rfl rfl rfl rfl ?_)
     exact xo_fin rfl
    apply DrawOps.cons
    ·intro τ
     (first | refine xoN ?_ | refine xo_loadR0 T_ rfl rfl rfl (RO.fld q0 rfl) rfl ?_)
     exact xo_fin rfl
    apply DrawOps.cons
    ·intro τ
     (first | refine xoN ?_ | refine xo_leq rfl rfl rfl rfl ?_)
     first
      | exact xo_fin (congrArg Value.bool hle)
      | exact xo_fin rfl
    apply DrawOps.cons
    ·intro τ
     (first | refine xoN ?_ | (first | refine xo_pickT rfl rfl rfl rfl ?_ | refine xo_pickF rfl rfl rfl rfl ?_))
     exact xo_fin rfl
    apply DrawOps.cons
    ·intro τ
     first | refine xo_pickT rfl rfl rfl rfl ?_ | refine xo_pickF rfl rfl rfl rfl ?_
     exact xo_fin rfl
    exact DrawOps.nil
   ·rfl
   with_reducible ((repeat first | apply xqT | apply xqB | apply xqS); (repeat apply xc_seq))
   refine xc_condF rfl ?_
   with_reducible (apply xc_skip; (repeat first | apply xqT | apply xqB | apply xqS); (repeat apply xc_seq); apply xcR)
   refine xoM ?_
   refine xo_add rfl rfl rfl (by omega) rfl ?_
   refine xoA ?_
   with_reducible (apply xo_nil; (repeat first | apply xqT | apply xqB | apply xqS))
   exact xq_again _ _ _ _ _ (k + 1) ⟨hlt, by rw [hall, hnx]⟩ (by omega) ⟨rfl, rfl, trivial⟩ (List.Sublist.refl _)
 have hge : k = ms.length := by have := of_decide_eq_false h; omega
 rw [List.drop_of_length_le (by omega), marksB] at hall
 rw [hall]
 with_reducible (apply xc_exit; (repeat (first | apply xq_blockX | apply xq_thenE | refine xq_blockE rfl ?_ | apply xq_scopeE)); (repeat first | apply xqT | apply xqB | apply xqS); (repeat apply xc_seq); apply xcR)
 refine xoA ?_
 with_reducible (apply xo_nil; (repeat first | apply xqT | apply xqB | apply xqS); (repeat apply xc_seq); apply xc_ret; (repeat (first | apply xq_thenR | apply xq_blockR | apply xq_scopeR)))
 exact xq_ret1 rfl rfl fun w' hw => ⟨rfl, hw.kx.below⟩
theorem scene_enters : ∀ args w, (callFunc 31 args).run Tryd.prog w = .ok (.enter 31 args) w := enters_of Tryd.func31 (by kernel_rfl) rfl
theorem every_calls (R E : Int) (A B : Option Addr) (n c c2 : Nat) (ms : List MarT) (w : World) (hm8 : ms.length ≤ 8) : Calls Tryd.prog 34 #[.agg (scnV R A n c E B ms.length c2).toArray] w fun e w' => e = .returned (.int .i64 ((2 ^ ms.length - 1 : Nat) : Int)) ∧ Below w.heap.size w w' := by
 have h2 := two8 hm8
 refine x_calls (X := XNone) Tryd.func34 rfl rfl rfl ?_
 with_reducible ((repeat apply xc_seq); apply xcR)
 refine xo_box rfl rfl rfl rfl (fun b1 => ?_)
 refine xoA ?_
 with_reducible (apply xo_nil; (repeat first | apply xqT | apply xqB | apply xqS); (repeat apply xc_seq); apply xcR)
 refine xo_fa T_ rfl rfl rfl rfl rfl ?_
 refine xo_load0 T_ rfl rfl rfl (by repeat first | exact mH | apply mT | apply mA) rfl rfl ?_
 refine xo_len T_ rfl rfl rfl rfl ?_
 refine xo_shl1 rfl rfl rfl (by omega) rfl ?_
 refine xo_sub rfl rfl rfl (by omega) rfl ?_
 refine xoA ?_
 with_reducible (apply xo_nil; (repeat first | apply xqT | apply xqB | apply xqS); (repeat apply xc_seq); apply xc_ret; (repeat (first | apply xq_thenR | apply xq_blockR | apply xq_scopeR)))
 exact xq_ret1 rfl rfl fun w' hw => ⟨by rw [show ((2 ^ ms.length - 1 : Nat) : Int) = ((2 ^ ms.length : Nat) : Int) - 1 by omega], hw.kx.below⟩
theorem every_enters : ∀ args w, (callFunc 34 args).run Tryd.prog w = .ok (.enter 34 args) w := enters_of Tryd.func34 (by kernel_rfl) rfl
noncomputable def sceneE (R E R' E' : Int) (gs gs' : List GatT) (ms ms' : List MarT) : Bool := eqL (R, E, gs, ms) (R', E', gs', ms')
set_option maxHeartbeats 8000000 in
theorem same_calls (R E R' E' : Int) (A B A' B' : Option Addr) (c c2 c' c2' : Nat) (gs gs' : List GatT) (ms ms' : List MarT) (w : World) (hA : RowOf gatV 4 zGat w A gs) (hM : RowOf marV 7 zMar w B ms) (hA' : RowOf gatV 4 zGat w A' gs') (hM' : RowOf marV 7 zMar w B' ms') (l1 : gs.length ≤ 1000000) (l2 : ms.length ≤ 1000000) :
  Calls Tryd.prog 19 #[.agg (scnV R A gs.length c E B ms.length c2).toArray, .agg (scnV R' A' gs'.length c' E' B' ms'.length c2').toArray] w fun e w' => e = .returned (.bool (sceneE R E R' E' gs gs' ms ms')) ∧ Below w.heap.size w w' := by
 refine x_calls (X := XNone) Tryd.func19 rfl rfl rfl ?_
 with_reducible ((repeat apply xc_seq); apply xcR)
 refine xo_box rfl rfl rfl rfl (fun b2 => ?_)
 refine xo_box rfl rfl rfl rfl (fun b3 => ?_)
 refine xoA ?_
 with_reducible (apply xo_nil; (repeat first | apply xqT | apply xqB | apply xqS); (repeat apply xc_seq))
 refine xc_meet2 (γ := Unit) (fun _ => True) (fun _ => [(2, .pointer (some ⟨b2, 0, none⟩)), (3, .pointer (some ⟨b3, 0, none⟩)), (36, .bool (!decide (R = R') || !decide (E = E') || !decide ((gs.length : Int) = gs'.length) || !decide ((ms.length : Int) = ms'.length)))]) (fun _ => [(b3, true, cel (scnV R' A' gs'.length c' E' B' ms'.length c2') 25), (b2, true, cel (scnV R A gs.length c E B ms.length c2) 25)]) ?_ (fun _ _ => ?_)
 ·with_reducible apply xcR
  refine xo_fa T_ rfl rfl rfl rfl rfl ?_
  refine xo_load0 T_ rfl rfl rfl (by repeat first | exact mH | apply mT | apply mA) rfl rfl ?_
  refine xo_fa T_ rfl rfl rfl rfl rfl ?_
  refine xo_load0 T_ rfl rfl rfl (by repeat first | exact mH | apply mT | apply mA) rfl rfl ?_
  refine xo_neq rfl rfl rfl rfl ?_
  refine xoM ?_
  first
   | refine xo_lit (i := 12) (b := true) rfl ?_
   | refine xo_lit (i := 12) (b := false) rfl ?_
   | refine xo_split (i := 12) rfl rfl (fun h12 => ?_) (fun h12 => ?_)
  all_goals
   try simp only [decide_eq_true_eq, decide_eq_false_iff_not] at h12
   (first | refine xoN ?_ | refine xo_fa T_ rfl rfl rfl rfl rfl ?_)
   (first | refine xoN ?_ | refine xo_load0 T_ rfl rfl rfl (by repeat first | exact mH | apply mT | apply mA) rfl rfl ?_)
   (first | refine xoN ?_ | refine xo_fa T_ rfl rfl rfl rfl rfl ?_)
   (first | refine xoN ?_ | refine xo_load0 T_ rfl rfl rfl (by repeat first | exact mH | apply mT | apply mA) rfl rfl ?_)
   (first | refine xoN ?_ | refine xo_neq rfl rfl rfl rfl ?_)
   first | refine xo_pickT rfl rfl rfl rfl ?_ | refine xo_pickF rfl rfl rfl rfl ?_
   refine xoM ?_
   first
    | refine xo_lit (i := 19) (b := true) rfl ?_
    | refine xo_lit (i := 19) (b := false) rfl ?_
    | refine xo_split (i := 19) rfl rfl (fun h19 => ?_) (fun h19 => ?_)
   all_goals
    try simp only [decide_eq_true_eq, decide_eq_false_iff_not] at h19
    (first | refine xoN ?_ | refine xo_fa T_ rfl rfl rfl rfl rfl ?_)
    (first | refine xoN ?_ | refine xo_load0 T_ rfl rfl rfl (by repeat first | exact mH | apply mT | apply mA) rfl rfl ?_)
    (first | refine xoN ?_ | refine xo_len T_ rfl rfl rfl rfl ?_)
    (first | refine xoN ?_ | refine xo_fa T_ rfl rfl rfl rfl rfl ?_)
    (first | refine xoN ?_ | refine xo_load0 T_ rfl rfl rfl (by repeat first | exact mH | apply mT | apply mA) rfl rfl ?_)
    (first | refine xoN ?_ | refine xo_len T_ rfl rfl rfl rfl ?_)
    (first | refine xoN ?_ | refine xo_neq rfl rfl rfl rfl ?_)
    first | refine xo_pickT rfl rfl rfl rfl ?_ | refine xo_pickF rfl rfl rfl rfl ?_
    refine xoM ?_
    first
     | refine xo_lit (i := 28) (b := true) rfl ?_
     | refine xo_lit (i := 28) (b := false) rfl ?_
     | refine xo_split (i := 28) rfl rfl (fun h28 => ?_) (fun h28 => ?_)
    all_goals
     try simp only [decide_eq_true_eq, decide_eq_false_iff_not] at h28
     (first | refine xoN ?_ | refine xo_fa T_ rfl rfl rfl rfl rfl ?_)
     (first | refine xoN ?_ | refine xo_load0 T_ rfl rfl rfl (by repeat first | exact mH | apply mT | apply mA) rfl rfl ?_)
     (first | refine xoN ?_ | refine xo_len T_ rfl rfl rfl rfl ?_)
     (first | refine xoN ?_ | refine xo_fa T_ rfl rfl rfl rfl rfl ?_)
     (first | refine xoN ?_ | refine xo_load0 T_ rfl rfl rfl (by repeat first | exact mH | apply mT | apply mA) rfl rfl ?_)
     (first | refine xoN ?_ | refine xo_len T_ rfl rfl rfl rfl ?_)
     (first | refine xoN ?_ | refine xo_neq rfl rfl rfl rfl ?_)
     first | refine xo_pickT rfl rfl rfl rfl ?_ | refine xo_pickF rfl rfl rfl rfl ?_
     with_reducible apply xo_nil
     exact xq_meet (fun _ => True) _ _ () trivial ⟨(by first | rfl | exact congrArg (fun b => some (Value.bool b)) (by first | simp [h12, h19, h28] | simp [h12, h19] | simp [h12] | simp [])), (by first | rfl | exact congrArg (fun b => some (Value.bool b)) (by first | simp [h12, h19, h28] | simp [h12, h19] | simp [h12] | simp [])), (by first | rfl | exact congrArg (fun b => some (Value.bool b)) (by first | simp [h12, h19, h28] | simp [h12, h19] | simp [h12] | simp [])), trivial⟩ (by repeat (first | exact List.Sublist.refl _ | apply List.Sublist.cons_cons | apply List.Sublist.cons | exact List.nil_sublist _))
 with_reducible (repeat first | apply xqT | apply xqB | apply xqS)
 cases h1 : (!decide (R = R') || !decide (E = E') || !decide ((gs.length : Int) = gs'.length) || !decide ((ms.length : Int) = ms'.length))
 rotate_left
 ·have hne : ¬ (R, E, gs, ms) = (R', E', gs', ms') := fun e => by
   simp only [Prod.mk.injEq] at e
   obtain ⟨rfl, rfl, rfl, rfl⟩ := e
   simp at h1
  with_reducible (repeat apply xc_seq)
  refine xc_condT rfl ?_
  with_reducible ((repeat apply xc_seq); apply xcR)
  refine xoA ?_
  with_reducible (apply xo_nil; (repeat first | apply xqT | apply xqB | apply xqS); (repeat apply xc_seq); apply xc_ret; (repeat (first | apply xq_thenR | apply xq_blockR | apply xq_scopeR)))
  exact xq_ret1 rfl rfl fun w' hw => ⟨by rw [sceneE, eqL_false hne], hw.kx.below⟩
 simp only [Bool.or_eq_false_iff, Bool.not_eq_false', decide_eq_true_eq] at h1
 obtain ⟨⟨⟨rfl, rfl⟩, hg⟩, hm⟩ := h1
 with_reducible (repeat apply xc_seq)
 refine xc_condF rfl ?_
 with_reducible (apply xc_skip; (repeat first | apply xqT | apply xqB | apply xqS); (repeat apply xc_seq); apply xcR)
 refine xoA ?_
 with_reducible (apply xo_nil; (repeat first | apply xqT | apply xqB | apply xqS); (repeat apply xc_seq); apply xc_block)
 refine xc_loop (γ := Nat) (fun k => k ≤ gs.length ∧ gs.take k = gs'.take k) (fun k => [(2, .pointer (some ⟨b2, 0, none⟩)), (3, .pointer (some ⟨b3, 0, none⟩)), (5, .int .i64 (k : Int))]) (fun _ => [(b3, true, cel (scnV R A' gs'.length c' E B' ms'.length c2') 25), (b2, true, cel (scnV R A gs.length c E B ms.length c2) 25)]) (fun k => gs.length - k) 0 ⟨Nat.zero_le _, rfl⟩ ⟨rfl, rfl, rfl, trivial⟩ (List.Sublist.refl _) ?_
 rintro k ⟨hk, heq⟩
 with_reducible ((repeat apply xc_seq); apply xcR)
 refine xoM ?_
 refine xo_fa T_ rfl rfl rfl rfl rfl ?_
 refine xo_load0 T_ rfl rfl rfl (by repeat first | exact mH | apply mT | apply mA) rfl rfl ?_
 refine xo_len T_ rfl rfl rfl rfl ?_
 refine xo_lss rfl rfl rfl rfl ?_
 with_reducible (apply xo_nil; (repeat first | apply xqT | apply xqB | apply xqS); (repeat apply xc_seq))
 refine xc_cond rfl (fun h => ?_) (fun h => ?_)
 ·have hlt : k < gs.length := by have := of_decide_eq_true h; omega
  obtain ⟨ad1, rfl, q1⟩ := hA k hlt
  obtain ⟨ad2, rfl, q2⟩ := hA' k (by omega)
  with_reducible (apply xc_skip; (repeat first | apply xqT | apply xqB | apply xqS); (repeat apply xc_seq); apply xc_block)
  refine xc_slots [(2, .pointer (some ⟨b2, 0, none⟩)), (3, .pointer (some ⟨b3, 0, none⟩)), (5, .int .i64 (k : Int))] ⟨rfl, rfl, rfl, trivial⟩ ?_
  with_reducible (repeat apply xc_seq)
  apply xc_drawN
  ·exact T_.mixed
  ·rfl
  ·rfl
  ·rfl
  ·rfl
  ·apply DrawOps.cons
   ·intro τ
    refine xo_fa T_ rfl rfl rfl rfl rfl ?_
    exact xo_fin rfl
   apply DrawOps.cons
   ·intro τ
    refine xo_load0 T_ rfl rfl rfl (by repeat first | exact mH | apply mT | apply mA) rfl rfl ?_
    exact xo_fin rfl
   apply DrawOps.cons
   ·intro τ
    refine xoM ?_
    exact xo_fin rfl
   apply DrawOps.cons
   ·intro τ
    refine xo_ia T_ rfl rfl rfl rfl rfl ⟨by omega, by omega⟩ rfl ?_
    exact xo_fin rfl
   apply DrawOps.cons
   ·intro τ
    refine xo_loadRN T_ rfl rfl rfl q1 rfl rfl ?_
    exact xo_fin rfl
   apply DrawOps.cons
   ·intro τ
    refine xo_fa T_ rfl rfl rfl rfl rfl ?_
    exact xo_fin rfl
   apply DrawOps.cons
   ·intro τ
    refine xo_load0 T_ rfl rfl rfl (by repeat first | exact mH | apply mT | apply mA) rfl rfl ?_
    exact xo_fin rfl
   apply DrawOps.cons
   ·intro τ
    refine xoM ?_
    exact xo_fin rfl
   apply DrawOps.cons
   ·intro τ
    refine xo_ia T_ rfl rfl rfl rfl rfl ⟨by omega, by omega⟩ rfl ?_
    exact xo_fin rfl
   apply DrawOps.cons
   ·intro τ
    refine xo_loadRN T_ rfl rfl rfl q2 rfl rfl ?_
    exact xo_fin rfl
   apply DrawOps.cons
   ·intro τ
    refine xo_neqV rfl rfl rfl (fun w => gat_ne _ _ (gs.getD k zGat) (gs'.getD k zGat) w) rfl ?_
    exact xo_fin rfl
   exact DrawOps.nil
  ·rfl
  with_reducible ((repeat first | apply xqT | apply xqB | apply xqS); (repeat apply xc_seq))
  refine xc_cond rfl (fun h2 => ?_) (fun h2 => ?_)
  ·have hne : ¬ gs.getD k zGat = gs'.getD k zGat := fun e => by rw [gatE_iff.2 e] at h2; cases h2
   with_reducible ((repeat apply xc_seq); apply xcR)
   refine xoA ?_
   with_reducible (apply xo_nil; (repeat first | apply xqT | apply xqB | apply xqS); (repeat apply xc_seq); apply xc_ret; (repeat (first | apply xq_thenR | apply xq_blockR | apply xq_scopeR)))
   exact xq_ret1 rfl rfl fun w' hw => ⟨by rw [sceneE, eqL_false (fun e => hne (by simp only [Prod.mk.injEq] at e; rw [e.2.2.1]))], hw.kx.below⟩
  ·have he : gs.getD k zGat = gs'.getD k zGat := gatE_iff.1 (by simpa using h2)
   with_reducible (apply xc_skip; (repeat first | apply xqT | apply xqB | apply xqS); (repeat apply xc_seq); apply xcR)
   refine xoM ?_
   refine xo_add rfl rfl rfl (by omega) rfl ?_
   refine xoA ?_
   with_reducible (apply xo_nil; (repeat first | apply xqT | apply xqB | apply xqS))
   exact xq_again _ _ _ _ _ (k + 1) ⟨hlt, take_eq_succ zGat hlt (by omega) heq he⟩ (by omega) ⟨rfl, rfl, rfl, trivial⟩ (List.Sublist.refl _)
 have hge : k = gs.length := by have := of_decide_eq_false h; omega
 have hgs : gs = gs' := by rwa [List.take_of_length_le (by omega), List.take_of_length_le (by omega)] at heq
 clear heq
 with_reducible (apply xc_exit; (repeat (first | apply xq_blockX | apply xq_thenE | refine xq_blockE rfl ?_ | apply xq_scopeE)); (repeat first | apply xqT | apply xqB | apply xqS); (repeat apply xc_seq); apply xcR)
 refine xoA ?_
 with_reducible (apply xo_nil; (repeat first | apply xqT | apply xqB | apply xqS); (repeat apply xc_seq); apply xc_block)
 refine xc_loop (γ := Nat) (fun k => k ≤ ms.length ∧ ms.take k = ms'.take k) (fun k => [(2, .pointer (some ⟨b2, 0, none⟩)), (3, .pointer (some ⟨b3, 0, none⟩)), (6, .int .i64 (k : Int))]) (fun _ => [(b3, true, cel (scnV R A' gs'.length c' E B' ms'.length c2') 25), (b2, true, cel (scnV R A gs.length c E B ms.length c2) 25)]) (fun k => ms.length - k) 0 ⟨Nat.zero_le _, rfl⟩ ⟨rfl, rfl, rfl, trivial⟩ (List.Sublist.refl _) ?_
 rintro k ⟨hk, heq⟩
 with_reducible ((repeat apply xc_seq); apply xcR)
 refine xoM ?_
 refine xo_fa T_ rfl rfl rfl rfl rfl ?_
 refine xo_load0 T_ rfl rfl rfl (by repeat first | exact mH | apply mT | apply mA) rfl rfl ?_
 refine xo_len T_ rfl rfl rfl rfl ?_
 refine xo_lss rfl rfl rfl rfl ?_
 with_reducible (apply xo_nil; (repeat first | apply xqT | apply xqB | apply xqS); (repeat apply xc_seq))
 refine xc_cond rfl (fun h => ?_) (fun h => ?_)
 ·have hlt : k < ms.length := by have := of_decide_eq_true h; omega
  obtain ⟨ad1, rfl, q1⟩ := hM k hlt
  obtain ⟨ad2, rfl, q2⟩ := hM' k (by omega)
  with_reducible (apply xc_skip; (repeat first | apply xqT | apply xqB | apply xqS); (repeat apply xc_seq); apply xc_block)
  refine xc_slots [(2, .pointer (some ⟨b2, 0, none⟩)), (3, .pointer (some ⟨b3, 0, none⟩)), (6, .int .i64 (k : Int))] ⟨rfl, rfl, rfl, trivial⟩ ?_
  with_reducible (repeat apply xc_seq)
  apply xc_drawN
  ·exact T_.mixed
  ·rfl
  ·rfl
  ·rfl
  ·rfl
  ·apply DrawOps.cons
   ·intro τ
    refine xo_fa T_ rfl rfl rfl rfl rfl ?_
    exact xo_fin rfl
   apply DrawOps.cons
   ·intro τ
    refine xo_load0 T_ rfl rfl rfl (by repeat first | exact mH | apply mT | apply mA) rfl rfl ?_
    exact xo_fin rfl
   apply DrawOps.cons
   ·intro τ
    refine xoM ?_
    exact xo_fin rfl
   apply DrawOps.cons
   ·intro τ
    refine xo_ia T_ rfl rfl rfl rfl rfl ⟨by omega, by omega⟩ rfl ?_
    exact xo_fin rfl
   apply DrawOps.cons
   ·intro τ
    refine xo_loadRN T_ rfl rfl rfl q1 rfl rfl ?_
    exact xo_fin rfl
   apply DrawOps.cons
   ·intro τ
    refine xo_fa T_ rfl rfl rfl rfl rfl ?_
    exact xo_fin rfl
   apply DrawOps.cons
   ·intro τ
    refine xo_load0 T_ rfl rfl rfl (by repeat first | exact mH | apply mT | apply mA) rfl rfl ?_
    exact xo_fin rfl
   apply DrawOps.cons
   ·intro τ
    refine xoM ?_
    exact xo_fin rfl
   apply DrawOps.cons
   ·intro τ
    refine xo_ia T_ rfl rfl rfl rfl rfl ⟨by omega, by omega⟩ rfl ?_
    exact xo_fin rfl
   apply DrawOps.cons
   ·intro τ
    refine xo_loadRN T_ rfl rfl rfl q2 rfl rfl ?_
    exact xo_fin rfl
   apply DrawOps.cons
   ·intro τ
    refine xo_neqV rfl rfl rfl (fun w => mar_ne _ _ (ms.getD k zMar) (ms'.getD k zMar) w) rfl ?_
    exact xo_fin rfl
   exact DrawOps.nil
  ·rfl
  with_reducible ((repeat first | apply xqT | apply xqB | apply xqS); (repeat apply xc_seq))
  refine xc_cond rfl (fun h2 => ?_) (fun h2 => ?_)
  ·have hne : ¬ ms.getD k zMar = ms'.getD k zMar := fun e => by rw [marE_iff.2 e] at h2; cases h2
   with_reducible ((repeat apply xc_seq); apply xcR)
   refine xoA ?_
   with_reducible (apply xo_nil; (repeat first | apply xqT | apply xqB | apply xqS); (repeat apply xc_seq); apply xc_ret; (repeat (first | apply xq_thenR | apply xq_blockR | apply xq_scopeR)))
   exact xq_ret1 rfl rfl fun w' hw => ⟨by rw [sceneE, eqL_false (fun e => hne (by simp only [Prod.mk.injEq] at e; rw [e.2.2.2]))], hw.kx.below⟩
  ·have he : ms.getD k zMar = ms'.getD k zMar := marE_iff.1 (by simpa using h2)
   with_reducible (apply xc_skip; (repeat first | apply xqT | apply xqB | apply xqS); (repeat apply xc_seq); apply xcR)
   refine xoM ?_
   refine xo_add rfl rfl rfl (by omega) rfl ?_
   refine xoA ?_
   with_reducible (apply xo_nil; (repeat first | apply xqT | apply xqB | apply xqS))
   exact xq_again _ _ _ _ _ (k + 1) ⟨hlt, take_eq_succ zMar hlt (by omega) heq he⟩ (by omega) ⟨rfl, rfl, rfl, trivial⟩ (List.Sublist.refl _)
 have hge : k = ms.length := by have := of_decide_eq_false h; omega
 have hms : ms = ms' := by rwa [List.take_of_length_le (by omega), List.take_of_length_le (by omega)] at heq
 with_reducible (apply xc_exit; (repeat (first | apply xq_blockX | apply xq_thenE | refine xq_blockE rfl ?_ | apply xq_scopeE)); (repeat first | apply xqT | apply xqB | apply xqS); (repeat apply xc_seq); apply xcR)
 refine xoA ?_
 with_reducible (apply xo_nil; (repeat first | apply xqT | apply xqB | apply xqS); (repeat apply xc_seq); apply xc_ret; (repeat (first | apply xq_thenR | apply xq_blockR | apply xq_scopeR)))
 exact xq_ret1 rfl rfl fun w' hw => ⟨by rw [sceneE, eqL_true (by rw [hgs, hms])], hw.kx.below⟩
theorem same_enters : ∀ args w, (callFunc 19 args).run Tryd.prog w = .ok (.enter 19 args) w := enters_of Tryd.func19 (by kernel_rfl) rfl
def gatL (l : List GatT) : List Value := (l.map gatV).flatten
theorem gatL_len (l : List GatT) : (gatL l).length = l.length * 4 := by
 unfold gatL
 rw [flat_len 4 _ (by intro c hc; obtain ⟨x, _, rfl⟩ := List.mem_map.1 hc; rfl), List.length_map]
theorem flat_row {α : Type} (V : α → List Value) (sz : Nat) (z : α) (hV : ∀ x, (V x).length = sz) (hsz : szN sz = sz) (h0 : 0 < sz) {w : World} {A : Option Addr} {xs : List α} (h : RowOf V sz z w A xs) {p : Addr} (hp : A = some p) {j : Nat} {u : Value} (hj : ((xs.map V).flatten)[j]? = some u) : w.cell? (p.add j) = some u := by
 obtain ⟨h1, h2⟩ := flat_split (α := Value) h0 j
 rw [h1, flat_at sz _ (j / sz) (j % sz) (by intro c hc; obtain ⟨x, _, rfl⟩ := List.mem_map.1 hc; exact hV x) h2, List.getElem?_map] at hj
 have hlt : j / sz < xs.length := by
  apply Classical.byContradiction
  intro hn
  rw [List.getElem?_eq_none (by omega)] at hj
  cases hj
 obtain ⟨ad, e, hR⟩ := h (j / sz) hlt
 rw [hp] at e
 cases e
 rw [List.getElem?_eq_getElem hlt] at hj
 have hg : xs.getD (j / sz) z = xs[j / sz] := by simp [List.getD_eq_getElem?_getD, List.getElem?_eq_getElem hlt]
 have := (hR (j % sz) u (by rw [hg]; exact hj)).1
 rw [add_add, Int.toNat_natCast, hsz, ← h1] at this
 exact this
theorem one_flat {α : Type} (V : α → List Value) (hV : ∀ x, ∀ u ∈ V x, u.oneCell' = true) (xs : List α) : ∀ u ∈ (xs.map V).flatten, u.oneCell' = true := by
 intro u hu
 obtain ⟨c, hc, hu⟩ := List.mem_flatten.1 hu
 obtain ⟨x, _, rfl⟩ := List.mem_map.1 hc
 exact hV x u hu
theorem gatV_ones (x : GatT) : ∀ u ∈ gatV x, u.oneCell' = true := by
 intro u hu
 have : (gatV x).all (·.oneCell') = true := rfl
 exact List.all_eq_true.1 this u hu
theorem marV_ones (x : MarT) : ∀ u ∈ marV x, u.oneCell' = true := by
 intro u hu
 exact List.all_eq_true.1 (marV_one x) u hu
set_option maxHeartbeats 4000000 in
theorem twin_calls (R E : Int) (A B : Option Addr) (c c2 : Nat) (gs : List GatT) (ms : List MarT) (w : World) (hA : RowOf gatV 4 zGat w A gs) (hM : RowOf marV 7 zMar w B ms) (hA0 : A = none → gs.length = 0) (hB0 : B = none → ms.length = 0) (l1 : gs.length ≤ 1000000) (l2 : ms.length ≤ 1000000) :
  Calls Tryd.prog 6 #[.agg (scnV R A gs.length c E B ms.length c2).toArray] w fun e w' => ∃ b1 k1 b2 k2, e = .returned (.agg (scnV R (some ⟨b1, 0, none⟩) gs.length k1 E (some ⟨b2, 0, none⟩) ms.length k2).toArray) ∧ WOK w XNone [(b2, true, orow 60 7 ms.length k2 (marL ms)), (b1, true, orow 57 4 gs.length k1 (gatL gs))] w' := by
 refine x_calls (X := XNone) Tryd.func6 rfl rfl rfl ?_
 with_reducible ((repeat apply xc_seq); apply xcR)
 refine xo_box rfl rfl rfl rfl (fun b1 => ?_)
 refine xo_alloc T_ rfl rfl rfl rfl (fun b2 => ?_)
 with_reducible (apply xo_nil; (repeat first | apply xqT | apply xqB | apply xqS); (repeat apply xc_seq); apply xcR)
 refine xo_bs0 T_ 4 rfl rfl rfl rfl (fun b0 => ?_)
 refine xo_fa T_ rfl rfl rfl rfl rfl ?_
 refine xo_load0 T_ rfl rfl rfl (by repeat first | exact mH | apply mT | apply mA) rfl rfl ?_
 refine xo_appE TR_ rfl rfl rfl rfl rfl rfl rfl rfl (gatL_len gs) hA0 (fun p e w1 hw1 j u hj => hw1.kx.cell (flat_row gatV 4 zGat (fun _ => rfl) rfl (by omega) hA e hj) (fun h => h)) (one_flat gatV gatV_ones gs) (by omega) rfl rfl (fun b6 cap6 => ?_)
 refine xo_fa T_ rfl rfl rfl rfl rfl ?_
 refine xo_store T_ rfl rfl rfl rfl (by repeat first | exact mH | apply mT | apply mA) rfl rfl rfl rfl (by repeat first | exact Upd.head | apply Upd.tail | apply Upd.app) rfl ?_
 with_reducible (apply xo_nil; (repeat first | apply xqT | apply xqB | apply xqS); (repeat apply xc_seq); apply xcR)
 refine xo_bs0 T_ 7 rfl rfl rfl rfl (fun b0 => ?_)
 refine xo_fa T_ rfl rfl rfl rfl rfl ?_
 refine xo_load0 T_ rfl rfl rfl (by repeat first | exact mH | apply mT | apply mA) rfl rfl ?_
 refine xo_appE TR_ rfl rfl rfl rfl rfl rfl rfl rfl (marL_len ms) hB0 (fun p e w1 hw1 j u hj => hw1.kx.cell (flat_row marV 7 zMar (fun _ => rfl) rfl (by omega) hM e hj) (fun h => h)) (one_flat marV marV_ones ms) (by omega) rfl rfl (fun b11 cap11 => ?_)
 refine xo_fa T_ rfl rfl rfl rfl rfl ?_
 refine xo_store T_ rfl rfl rfl rfl (by repeat first | exact mH | apply mT | apply mA) rfl rfl rfl rfl (by repeat first | exact Upd.head | apply Upd.tail | apply Upd.app) rfl ?_
 with_reducible (apply xo_nil; (repeat first | apply xqT | apply xqB | apply xqS); (repeat apply xc_seq); apply xcR)
 refine xo_loadN T_ rfl rfl rfl (by repeat first | exact mH | apply mT | apply mA) rfl rfl ?_
 refine xo_store T_ rfl rfl rfl rfl (by repeat first | exact mH | apply mT | apply mA) rfl rfl rfl rfl (by repeat first | exact Upd.head | apply Upd.tail | apply Upd.app) rfl ?_
 with_reducible (apply xo_nil; (repeat first | apply xqT | apply xqB | apply xqS); (repeat apply xc_seq); apply xc_ret; (repeat (first | apply xq_thenR | apply xq_blockR | apply xq_scopeR)))
 exact xq_retC T_ rfl rfl rfl (by repeat first | exact mH | apply mT | apply mA) rfl fun w' hw => ⟨b6, cap6, b11, cap11, rfl, hw.sub (List.Sublist.cons_cons _ (List.Sublist.cons_cons _ (List.nil_sublist _)))⟩
theorem twin_enters : ∀ args w, (callFunc 6 args).run Tryd.prog w = .ok (.enter 6 args) w := enters_of Tryd.func6 (by kernel_rfl) rfl
theorem RO.fld2 {w : World} {X : Nat → Prop} {p : Addr} {cs : List Value} {i j : Nat} {v : Value} (h : RO w X p cs) (hj : cs[i + j]? = some v) : RO w X ((p.add i).add j) [v] := by
 rw [add_add]
 exact RO.fld h hj
theorem least_calls (R E : Int) (A B : Option Addr) (c m c2 : Nat) (gs : List GatT) (w : World) (hA : RowOf gatV 4 zGat w A gs) (hg6 : gs.length ≤ 6) :
  Calls Tryd.prog 39 #[.agg (scnV R A gs.length c E B m c2).toArray] w fun e w' => ∃ rr : RowR, e = .returned (valR rr gs.length) ∧ RowAt 3 w.heap.size w' rr (leastD gs) ∧ Below w.heap.size w w' := by
 have hll : (leastD gs).length = gs.length := by simp [leastD]
 refine x_calls (X := XNone) Tryd.func39 rfl rfl rfl ?_
 with_reducible ((repeat apply xc_seq); apply xcR)
 refine xo_box rfl rfl rfl rfl (fun b1 => ?_)
 refine xoA ?_
 with_reducible (apply xo_nil; (repeat first | apply xqT | apply xqB | apply xqS); (repeat apply xc_seq); apply xcR)
 refine xoA ?_
 with_reducible (apply xo_nil; (repeat first | apply xqT | apply xqB | apply xqS); (repeat apply xc_seq); apply xcR)
 refine xoA ?_
 with_reducible (apply xo_nil; (repeat first | apply xqT | apply xqB | apply xqS); (repeat apply xc_seq); apply xc_block)
 refine xc_loop (γ := Nat × RowR) (fun q => q.1 ≤ gs.length ∧ (q.2 = none → q.1 = 0)) (fun q => [(1, .pointer (some ⟨b1, 0, none⟩)), (3, valR q.2 q.1), (4, .int .i64 (q.1 : Int))])
  (fun q => hpR 3 1 q.2 q.1 (((leastD gs).take q.1).map (.int .i64)) ++ [(b1, true, cel (scnV R A gs.length c E B m c2) 25)]) (fun q => gs.length - q.1) (0, none) ⟨Nat.zero_le _, fun _ => rfl⟩ ⟨rfl, rfl, rfl, trivial⟩ (by repeat (first | exact List.Sublist.refl _ | apply List.Sublist.cons_cons | apply List.Sublist.cons | exact List.nil_sublist _)) ?_
 rintro ⟨k, rr⟩ ⟨hk, hrr⟩
 simp only at hk hrr
 with_reducible ((repeat apply xc_seq); apply xcR)
 refine xoM ?_
 refine xo_fa T_ rfl rfl rfl rfl rfl ?_
 refine xo_load0 T_ (b := b1) (wr := true) (cs := scnV R A gs.length c E B m c2) (te := 25) rfl rfl rfl (by repeat first | exact mH | apply mT | apply mA) rfl rfl ?_
 refine xo_len T_ rfl rfl rfl rfl ?_
 refine xo_lss rfl rfl rfl rfl ?_
 with_reducible (apply xo_nil; (repeat first | apply xqT | apply xqB | apply xqS); (repeat apply xc_seq))
 refine xc_cond rfl (fun h => ?_) (fun h => ?_)
 ·have hlt : k < gs.length := by have := of_decide_eq_true h; omega
  obtain ⟨ad, rfl, q1⟩ := hA k hlt
  have hst : (leastD gs).take (k + 1) = (leastD gs).take k ++ [(gs.getD k zGat).f2.f0] := by
   rw [List.take_add_one]
   unfold leastD
   rw [List.getElem?_map, List.getElem?_eq_getElem hlt]
   simp [List.getD_eq_getElem?_getD, List.getElem?_eq_getElem hlt]
  have htl : ((leastD gs).take k).length = k := by rw [List.length_take, hll]; omega
  generalize gs.getD k zGat = g at q1 hst
  with_reducible (apply xc_skip; (repeat first | apply xqT | apply xqB | apply xqS); (repeat apply xc_seq); apply xc_block; (repeat apply xc_seq); apply xcR)
  refine xoM ?_
  refine xo_fa T_ rfl rfl rfl rfl rfl ?_
  refine xo_load0 T_ (b := b1) (wr := true) (cs := scnV R (some ad) gs.length c E B m c2) (te := 25) rfl rfl rfl (by repeat first | exact mH | apply mT | apply mA) rfl rfl ?_
  refine xoM ?_
  refine xo_ia T_ rfl rfl rfl rfl rfl ⟨by omega, by omega⟩ rfl ?_
  refine xo_faR T_ rfl rfl rfl rfl rfl ?_
  refine xo_faR T_ rfl rfl rfl rfl rfl ?_
  refine xo_loadR0 T_ rfl rfl rfl (RO.fld2 (v := .int .i64 g.f2.f0) q1 rfl) rfl ?_
  refine xo_bs1 T_ rfl rfl rfl rfl rfl rfl rfl rfl (fun b20 => ?_)
  refine xo_app TR_ rfl rfl rfl rfl rfl rfl rfl rfl (by rw [List.length_map, htl, Nat.mul_one]) rfl rfl hrr (by omega) rfl rfl (fun r' hr' => ?_)
  refine xoA ?_
  with_reducible (apply xo_nil; (repeat first | apply xqT | apply xqB | apply xqS); (repeat apply xc_seq); apply xcR)
  refine xoM ?_
  refine xo_add rfl rfl rfl (by omega) rfl ?_
  refine xoA ?_
  with_reducible (apply xo_nil; (repeat first | apply xqT | apply xqB | apply xqS))
  exact xq_again _ _ _ _ _ (k + 1, r') ⟨hlt, fun q => absurd q hr'⟩ (by simp only; omega) ⟨rfl, rfl, rfl, trivial⟩ (by rw [hst, List.map_append]; exact List.Sublist.refl _)
 have hge : k = gs.length := by have := of_decide_eq_false h; omega
 subst hge
 rw [List.take_of_length_le (by omega), ← hll]
 with_reducible (apply xc_exit; (repeat (first | apply xq_blockX | apply xq_thenE | refine xq_blockE rfl ?_ | apply xq_scopeE)); (repeat first | apply xqT | apply xqB | apply xqS); (repeat apply xc_seq); apply xcR)
 refine xoM ?_
 refine xoA ?_
 with_reducible (apply xo_nil; (repeat first | apply xqT | apply xqB | apply xqS); (repeat apply xc_seq); apply xc_ret; (repeat (first | apply xq_thenR | apply xq_blockR | apply xq_scopeR)))
 exact xq_ret1 rfl rfl fun w' hw => ⟨rr, rfl, RowAt.of hw (fun q => List.eq_nil_of_length_eq_zero (by rw [hll]; exact hrr q)), hw.kx.below⟩
theorem least_enters : ∀ args w, (callFunc 39 args).run Tryd.prog w = .ok (.enter 39 args) w := enters_of Tryd.func39 (by kernel_rfl) rfl
theorem WOK.start1 {w : World} {b : Nat} {φ : HP} {o : Obj} (h1 : w.heap[b]? = some o) (h2 : φ o) : WOK w (fun q => q = b) [(b, true, φ)] w := by
 refine ⟨Kx.refl _ w, ?_, by simp, ?_⟩
 ·intro e he
  simp only [List.mem_singleton] at he
  subst he
  exact ⟨o, h1, h2⟩
 ·intro e he _
  simp only [List.mem_singleton] at he
  subst he
  exact .inr rfl
theorem back_zero (gs : List GatT) (now : List Int) (hn : now.length = gs.length) : backL gs now 0 = now := by
 unfold backL
 rw [Nat.sub_zero, List.take_of_length_le (by omega), List.drop_of_length_le (by simp [leastD]), List.append_nil]
theorem backL_end (gs : List GatT) (now : List Int) (hn : now.length = gs.length) : backL gs now gs.length = leastD gs := by simp [backL]
theorem back_at {gs : List GatT} {now : List Int} (hn : now.length = gs.length) {p : Nat} (hp : p < gs.length) : (backL gs now p)[gs.length - 1 - p]? = some (now.getD (gs.length - 1 - p) 0) := by
 unfold backL
 rw [List.getElem?_append_left (by rw [List.length_take, hn]; omega), List.getElem?_take_of_lt (by omega), List.getElem?_eq_getElem (by omega)]
 simp [List.getD_eq_getElem?_getD, List.getElem?_eq_getElem (show gs.length - 1 - p < now.length by omega)]
set_option maxHeartbeats 4000000 in
theorem next_calls (R E : Int) (A B : Option Addr) (c m c2 : Nat) (gs : List GatT) (b cap : Nat) (now : List Int) (w : World) (o : Obj) (hA : RowOf gatV 4 zGat w A gs) (hg6 : gs.length ≤ 6) (hAb : 0 < gs.length → ∀ ad, A = some ad → ad.block ≠ b) (h1 : w.heap[b]? = some o) (h2 : orow 3 1 gs.length cap (now.map (.int .i64)) o) (hn : now.length = gs.length) (hb : ∀ x ∈ now, 0 ≤ x ∧ x ≤ 1000) :
  Calls Tryd.prog 40 #[.agg (scnV R A gs.length c E B m c2).toArray, .slice (some ⟨b, 0, none⟩) gs.length cap] w fun e w' => e = .returned (.bool (nextD gs now).isSome) ∧ Kx (fun q => q = b) w w' ∧ ∃ o', w'.heap[b]? = some o' ∧ orow 3 1 gs.length cap (((nextD gs now).getD (leastD gs)).map (.int .i64)) o' := by
 refine x_callsH (X := fun q => q = b) (vs := [.agg (scnV R A gs.length c E B m c2).toArray, .slice (some ⟨b, 0, none⟩) gs.length cap]) Tryd.func40 rfl rfl rfl (WOK.start1 h1 h2) ?_
 clear h1 h2
 with_reducible ((repeat apply xc_seq); apply xcR)
 refine xo_box rfl rfl rfl rfl (fun b2 => ?_)
 refine xoA ?_
 with_reducible (apply xo_nil; (repeat first | apply xqT | apply xqB | apply xqS); (repeat apply xc_seq); apply xcR)
 refine xoM ?_
 refine xo_len T_ rfl rfl rfl rfl ?_
 refine xo_sub rfl rfl rfl (by omega) rfl ?_
 refine xoA ?_
 with_reducible (apply xo_nil; (repeat first | apply xqT | apply xqB | apply xqS); (repeat apply xc_seq); apply xc_block)
 refine xc_loop (γ := Nat) (fun p => p ≤ gs.length ∧ nextD (gs.drop (gs.length - p)) (now.drop (gs.length - p)) = none) (fun p => [(1, .slice (some ⟨b, 0, none⟩) gs.length cap), (2, .pointer (some ⟨b2, 0, none⟩)), (5, .int .i64 ((gs.length : Int) - 1 - (p : Int)))])
  (fun p => [(b2, true, cel (scnV R A gs.length c E B m c2) 25), (b, true, orow 3 1 gs.length cap ((backL gs now p).map (.int .i64)))]) (fun p => gs.length - p) 0 ⟨Nat.zero_le _, by rw [Nat.sub_zero, List.drop_of_length_le (Nat.le_refl _), List.drop_of_length_le (by omega)]; rfl⟩ ⟨rfl, rfl, by rw [show ((gs.length : Int) - 1 - ((0 : Nat) : Int)) = (gs.length : Int) - 1 by omega]; rfl, trivial⟩ (by rw [back_zero gs now hn]; exact List.Sublist.refl _) ?_
 rintro p ⟨hp, hnone⟩
 with_reducible ((repeat apply xc_seq); apply xcR)
 refine xoM ?_
 refine xo_geq rfl rfl rfl rfl ?_
 with_reducible (apply xo_nil; (repeat first | apply xqT | apply xqB | apply xqS); (repeat apply xc_seq))
 refine xc_cond rfl (fun h => ?_) (fun h => ?_)
 ·have hlt : p < gs.length := by have := of_decide_eq_true h; omega
  obtain ⟨ad, rfl, q1⟩ := hA (gs.length - 1 - p) (by omega)
  rw [show ((gs.length - 1 - p : Nat) : Int) = (gs.length : Int) - 1 - (p : Int) by omega] at q1
  have q1 := q1.wr (X := fun q => q = b) (by rw [add_blk]; exact hAb (by omega) ad rfl)
  have hba := back_at hn hlt
  have hget : ((backL gs now p).map (Value.int .i64))[((gs.length : Int) - 1 - (p : Int)).toNat * szN 0]? = some (.int .i64 (now.getD (gs.length - 1 - p) 0)) := by
   rw [show ((gs.length : Int) - 1 - (p : Int)).toNat * szN 0 = gs.length - 1 - p by rw [show szN 0 = 1 from rfl]; omega, List.getElem?_map, hba]
   rfl
  have hb1 := fun h => nextD_back hn hlt hnone h
  have hb2 := fun h => nextD_back2 hn hlt hnone h
  have hs2 := backL_succ gs now p hn hlt
  have hbd := hb _ (getD_mem now 0 (gs.length - 1 - p) (by omega))
  have hbl : (backL gs now p).length = gs.length := backL_len gs now p hn
  generalize now.getD (gs.length - 1 - p) 0 = v at hget hb1 hb2 hbd
  generalize gs.getD (gs.length - 1 - p) zGat = g at q1 hb1 hb2 hs2
  with_reducible (apply xc_skip; (repeat first | apply xqT | apply xqB | apply xqS); (repeat apply xc_seq); apply xc_block)
  refine xc_slots [(1, .slice (some ⟨b, 0, none⟩) gs.length cap), (2, .pointer (some ⟨b2, 0, none⟩)), (5, .int .i64 ((gs.length : Int) - 1 - (p : Int)))] ⟨rfl, rfl, rfl, trivial⟩ ?_
  with_reducible (repeat apply xc_seq)
  apply xc_drawN
  ·exact T_.mixed
  ·rfl
  ·rfl
  ·rfl
  ·rfl
  ·apply DrawOps.cons
   ·intro τ
    refine xoM ?_
    exact xo_fin rfl
   apply DrawOps.cons
   ·intro τ
    refine xoM ?_
    exact xo_fin rfl
   apply DrawOps.cons
   ·intro τ
    refine xo_ia T_ rfl rfl rfl rfl rfl ⟨by omega, by omega⟩ rfl ?_
    exact xo_fin rfl
   apply DrawOps.cons
   ·intro τ
    refine xo_loadO T_ (k := ((gs.length : Int) - 1 - (p : Int)).toNat * szN 0) (v := .int .i64 v) rfl rfl rfl (List.Mem.tail _ (List.Mem.head _)) hget rfl ?_
    exact xo_fin rfl
   apply DrawOps.cons
   ·intro τ
    refine xo_fa T_ rfl rfl rfl rfl rfl ?_
    exact xo_fin rfl
   apply DrawOps.cons
   ·intro τ
    refine xo_load0 T_ rfl rfl rfl (by repeat first | exact mH | apply mT | apply mA) rfl rfl ?_
    exact xo_fin rfl
   apply DrawOps.cons
   ·intro τ
    refine xoM ?_
    exact xo_fin rfl
   apply DrawOps.cons
   ·intro τ
    refine xo_ia T_ rfl rfl rfl rfl rfl ⟨by omega, by omega⟩ rfl ?_
    exact xo_fin rfl
   apply DrawOps.cons
   ·intro τ
    refine xo_faR T_ rfl rfl rfl rfl rfl ?_
    exact xo_fin rfl
   apply DrawOps.cons
   ·intro τ
    refine xo_faR T_ rfl rfl rfl rfl rfl ?_
    exact xo_fin rfl
   apply DrawOps.cons
   ·intro τ
    refine xo_loadR0 T_ rfl rfl rfl (RO.fld2 (v := .int .i64 g.f2.f1) q1 rfl) rfl ?_
    exact xo_fin rfl
   apply DrawOps.cons
   ·intro τ
    refine xo_lss rfl rfl rfl rfl ?_
    exact xo_fin rfl
   exact DrawOps.nil
  ·rfl
  with_reducible ((repeat first | apply xqT | apply xqB | apply xqS); (repeat apply xc_seq))
  refine xc_cond rfl (fun h2 => ?_) (fun h2 => ?_)
  ·have hv := of_decide_eq_true h2
   have hnx := hb1 hv
   have hset : ((backL gs now p).map (Value.int .i64)).set (((gs.length : Int) - 1 - (p : Int)).toNat * szN 0) (.int .i64 (v + 1)) = ((backL gs now p).set (gs.length - 1 - p) (v + 1)).map (.int .i64) := by
    rw [show ((gs.length : Int) - 1 - (p : Int)).toNat * szN 0 = gs.length - 1 - p by rw [show szN 0 = 1 from rfl]; omega, map_set_int]
   with_reducible ((repeat apply xc_seq); apply xcR)
   refine xoM ?_
   refine xoM ?_
   refine xo_ia T_ rfl rfl rfl rfl rfl ⟨by omega, by omega⟩ rfl ?_
   refine xo_loadO T_ (k := ((gs.length : Int) - 1 - (p : Int)).toNat * szN 0) (v := .int .i64 v) rfl rfl rfl (List.Mem.tail _ (List.Mem.head _)) hget rfl ?_
   refine xo_add rfl rfl rfl (by omega) rfl ?_
   refine xo_ia T_ rfl rfl rfl rfl rfl ⟨by omega, by omega⟩ rfl ?_
   refine xo_storeO T_ (k := ((gs.length : Int) - 1 - (p : Int)).toNat * szN 0) (η' := [(b2, true, cel (scnV R (some ad) gs.length c E B m c2) 25), (b, true, orow 3 1 gs.length cap (((backL gs now p).set (gs.length - 1 - p) (v + 1)).map (.int .i64)))]) rfl rfl rfl rfl (List.Mem.tail _ (List.Mem.head _)) rfl rfl (by rw [show szN 0 = 1 from rfl]; omega) (by rw [hset]; exact Upd.tail Upd.head) rfl ?_
   with_reducible (apply xo_nil; (repeat first | apply xqT | apply xqB | apply xqS); (repeat apply xc_seq); apply xcR)
   refine xoA ?_
   with_reducible (apply xo_nil; (repeat first | apply xqT | apply xqB | apply xqS); (repeat apply xc_seq); apply xc_ret; (repeat (first | apply xq_thenR | apply xq_blockR | apply xq_scopeR)))
   exact xq_ret1 rfl rfl fun w' hw => ⟨by rw [hnx]; rfl, hw.kx, by rw [hnx]; exact hw.bl (b, true, orow 3 1 gs.length cap (((backL gs now p).set (gs.length - 1 - p) (v + 1)).map (.int .i64))) (List.Mem.tail _ (List.Mem.head _))⟩
  ·have hv := of_decide_eq_false h2
   have hset : ((backL gs now p).map (Value.int .i64)).set (((gs.length : Int) - 1 - (p : Int)).toNat * szN 0) (.int .i64 g.f2.f0) = (backL gs now (p + 1)).map (.int .i64) := by
    rw [show ((gs.length : Int) - 1 - (p : Int)).toNat * szN 0 = gs.length - 1 - p by rw [show szN 0 = 1 from rfl]; omega, map_set_int, hs2]
   with_reducible (apply xc_skip; (repeat first | apply xqT | apply xqB | apply xqS); (repeat apply xc_seq); apply xcR)
   refine xoM ?_
   refine xoM ?_
   refine xo_fa T_ rfl rfl rfl rfl rfl ?_
   refine xo_load0 T_ rfl rfl rfl (by repeat first | exact mH | apply mT | apply mA) rfl rfl ?_
   refine xoM ?_
   refine xo_ia T_ rfl rfl rfl rfl rfl ⟨by omega, by omega⟩ rfl ?_
   refine xo_faR T_ rfl rfl rfl rfl rfl ?_
   refine xo_faR T_ rfl rfl rfl rfl rfl ?_
   refine xo_loadR0 T_ rfl rfl rfl (RO.fld2 (v := .int .i64 g.f2.f0) q1 rfl) rfl ?_
   refine xo_ia T_ rfl rfl rfl rfl rfl ⟨by omega, by omega⟩ rfl ?_
   refine xo_storeO T_ (k := ((gs.length : Int) - 1 - (p : Int)).toNat * szN 0) (η' := [(b2, true, cel (scnV R (some ad) gs.length c E B m c2) 25), (b, true, orow 3 1 gs.length cap ((backL gs now (p + 1)).map (.int .i64)))]) rfl rfl rfl rfl (List.Mem.tail _ (List.Mem.head _)) rfl rfl (by rw [show szN 0 = 1 from rfl]; omega) (by rw [hset]; exact Upd.tail Upd.head) rfl ?_
   with_reducible (apply xo_nil; (repeat first | apply xqT | apply xqB | apply xqS); (repeat apply xc_seq); apply xcR)
   refine xoM ?_
   refine xo_sub rfl rfl rfl (by omega) rfl ?_
   refine xoA ?_
   with_reducible (apply xo_nil; (repeat first | apply xqT | apply xqB | apply xqS))
   exact xq_again _ _ _ _ _ (p + 1) ⟨hlt, hb2 hv⟩ (by omega) ⟨rfl, rfl, by rw [show ((gs.length : Int) - 1 - ((p + 1 : Nat) : Int)) = (gs.length : Int) - 1 - (p : Int) - 1 by omega]; rfl, trivial⟩ (List.Sublist.refl _)
 have hge : p = gs.length := by have := of_decide_eq_false h; omega
 subst hge
 rw [Nat.sub_self, List.drop_zero, List.drop_zero] at hnone
 rw [hnone, backL_end gs now hn]
 with_reducible (apply xc_exit; (repeat (first | apply xq_blockX | apply xq_thenE | refine xq_blockE rfl ?_ | apply xq_scopeE)); (repeat first | apply xqT | apply xqB | apply xqS); (repeat apply xc_seq); apply xcR)
 refine xoA ?_
 with_reducible (apply xo_nil; (repeat first | apply xqT | apply xqB | apply xqS); (repeat apply xc_seq); apply xc_ret; (repeat (first | apply xq_thenR | apply xq_blockR | apply xq_scopeR)))
 exact xq_ret1 rfl rfl fun w' hw => ⟨rfl, hw.kx, hw.bl (b, true, orow 3 1 gs.length cap ((leastD gs).map (.int .i64))) (List.Mem.tail _ (List.Mem.head _))⟩
theorem next_enters : ∀ args w, (callFunc 40 args).run Tryd.prog w = .ok (.enter 40 args) w := enters_of Tryd.func40 (by kernel_rfl) rfl
def rowD (n : Nat) (d : Nat → Int) : List Value := (List.range n).map fun v => Value.int .i64 (d v)
theorem rowD_len (n : Nat) (d : Nat → Int) : (rowD n d).length = n := by simp [rowD]
theorem rowD_at {n : Nat} (d : Nat → Int) {v : Nat} (hv : v < n) : (rowD n d)[0 + (v : Int).toNat * szN 0]? = some (.int .i64 (d v)) := by
 rw [show 0 + (v : Int).toNat * szN 0 = v by rw [show szN 0 = 1 from rfl, Int.toNat_natCast]; omega]
 simp [rowD, hv]
theorem rowD_set {n : Nat} (d : Nat → Int) (a : Nat) (x : Int) : (rowD n d).set (0 + (a : Int).toNat * szN 0) (.int .i64 x) = rowD n (fun v => if v = a then x else d v) := by
 rw [show 0 + (a : Int).toNat * szN 0 = a by rw [show szN 0 = 1 from rfl, Int.toNat_natCast]; omega]
 apply List.ext_getElem?
 intro i
 rw [List.getElem?_set]
 simp only [rowD, List.getElem?_map, List.length_map, List.length_range]
 by_cases hi : i < n
 ·rw [List.getElem?_range hi]
  by_cases e : a = i
  ·subst e
   simp [hi]
  ·rw [if_neg e]
   simp [show ¬ i = a from fun q => e q.symm]
 ·rw [List.getElem?_eq_none (by simpa using hi)]
  by_cases e : a = i
  ·subst e
   simp [hi]
  ·rw [if_neg e]
   rfl
theorem upd_set {b : Nat} {cs cs' : List Value} {t : TypeId} {φ : HP} {r : Hp} (h : cs = cs') : Upd b (cel cs t) ((b, true, φ) :: r) ((b, true, cel cs' t) :: r) := h ▸ Upd.head
theorem rowD_congr {n : Nat} {d e : Nat → Int} (h : ∀ v, v < n → d v = e v) : rowD n d = rowD n e := List.map_congr_left fun v hv => by rw [h v (List.mem_range.1 hv)]
theorem rowD_zero (n : Nat) : List.replicate n (Value.int .i64 0) = rowD n fun v => if v < 0 then 1000000 else 0 := by
 apply List.ext_getElem
 ·simp [rowD]
 ·intro i h1 h2
  simp [rowD]
def InN (d : Nat → Int) : Prop := ∀ v, 0 ≤ d v ∧ d v ≤ 1000000
theorem InN.relax {d : Nat → Int} (h : InN d) {e : Edge3} (he : 0 ≤ e.2.2) : InN (relax d e) := fun v => by
 have h1 := h e.1
 have h2 := h e.2.1
 have h3 := h v
 unfold Go.Proofs.YtommeljlfkmpjaaDoor.relax
 split
 ·split <;> omega
 ·split
  ·split <;> omega
  ·exact h3
theorem InN.round {d : Nat → Int} (h : InN d) : ∀ {es : List Edge3}, (∀ e ∈ es, 0 ≤ e.2.2) → InN (roundB es d)
 | [], _ => h
 | e :: es, he => (h.relax (he e List.mem_cons_self)).round (es := es) fun q hq => he q (List.mem_cons_of_mem _ hq)
theorem InN.rounds {d : Nat → Int} (h : InN d) {es : List Edge3} (he : ∀ e ∈ es, 0 ≤ e.2.2) : ∀ k, InN (roundsB es d k)
 | 0 => h
 | k + 1 => (h.rounds he k).round he
theorem InN.start (r : Nat) : InN (startB 1000000 r) := fun v => by unfold startB; split <;> omega
theorem relax_two (d : Nat → Int) (a b : Nat) (l : Int) (hne : a ≠ b) : (fun v => if v = b then (if d a + l < d b then d a + l else d b) else if v = a then (if d b + l < d a then d b + l else d a) else d v) = relax d (a, b, l) := by
 funext v
 unfold relax
 by_cases h1 : v = a
 ·subst h1
  simp [hne]
 ·by_cases h2 : v = b
  ·subst h2
   simp [h1]
  ·simp [h1, h2]
theorem edges_at {gs : List GatT} {l : List Int} (hl : l.length = gs.length) (i : Nat) (hi : i < gs.length) : (edgesL gs l)[i]? = some (edgeL (gs.getD i zGat) (l.getD i 0)) := by
 unfold edgesL
 rw [List.getElem?_zipWith, List.getElem?_eq_getElem hi, List.getElem?_eq_getElem (by omega)]
 simp [List.getD_eq_getElem?_getD, List.getElem?_eq_getElem hi, List.getElem?_eq_getElem (show i < l.length by omega)]
theorem edges_len {gs : List GatT} {l : List Int} (hl : l.length = gs.length) : (edgesL gs l).length = gs.length := by simp [edgesL, hl]
theorem roundB_take (es : List Edge3) (d : Nat → Int) (i : Nat) (e : Edge3) (h : es[i]? = some e) : roundB (es.take (i + 1)) d = relax (roundB (es.take i) d) e := by
 unfold roundB
 rw [List.take_add_one, h, List.foldl_append]
 rfl
set_option maxHeartbeats 40000000 in
theorem far_calls (n : Nat) (E : Int) (A B Dl : Option Addr) (c m c2 cd : Nat) (gs : List GatT) (l : List Int) (room : Nat) (w : World) (hn : 1 ≤ n ∧ n ≤ 6) (hG : GatesR n gs) (hl : okD gs l) (hA : RowOf gatV 4 zGat w A gs) (hD : IntsAt w Dl l) (hr : room < n) :
  Calls Tryd.prog 42 #[.agg (scnV n A gs.length c E B m c2).toArray, .slice Dl l.length cd, .int .i64 (room : Int)] w fun e w' => ∃ b, e = .returned (.slice (some ⟨b, 0, none⟩) n n) ∧ WOK w XNone [(b, true, cel (rowD n (roundsB (edgesL gs l) (startB 1000000 room) n)) 3)] w' := by
 have hll := okD_len hl
 have hes : ∀ e ∈ edgesL gs l, 0 ≤ e.2.2 := okD_pos hl fun g hg => (hG.ok g hg).2.2.2.1
 have hl60 : ∀ i, i < gs.length → 0 ≤ l.getD i 0 ∧ l.getD i 0 ≤ 60 := fun i hi => by
  have h1 := okD_at hl i hi
  have h2 := hG.ok _ (getD_mem gs zGat i hi)
  omega
 have hg6 := hG.len
 refine x_calls (X := XNone) Tryd.func42 rfl rfl rfl ?_
 with_reducible ((repeat apply xc_seq); apply xcR)
 refine xo_box rfl rfl rfl rfl (fun b3 => ?_)
 refine xoA ?_
 with_reducible (apply xo_nil; (repeat first | apply xqT | apply xqB | apply xqS); (repeat apply xc_seq); apply xcR)
 refine xo_fa T_ rfl rfl rfl rfl rfl ?_
 refine xo_load0 T_ rfl rfl rfl (by repeat first | exact mH | apply mT | apply mA) rfl rfl ?_
 refine xo_mks TR_ (m := n) rfl rfl rfl rfl rfl rfl (by omega) (by omega) rfl (fun b7 => ?_)
 refine xoA ?_
 with_reducible (apply xo_nil; (repeat first | apply xqT | apply xqB | apply xqS); (repeat apply xc_seq); apply xcR)
 refine xoA ?_
 with_reducible (apply xo_nil; (repeat first | apply xqT | apply xqB | apply xqS))
 rw [rowD_zero]
 with_reducible ((repeat apply xc_seq); apply xc_block)
 refine xc_loop (γ := Nat) (fun k => k ≤ n) (fun k => [(1, .slice Dl l.length cd), (2, .int .i64 (room : Int)), (3, .pointer (some ⟨b3, 0, none⟩)), (7, .slice (some ⟨b7, 0, none⟩) n n), (8, .int .i64 (k : Int))])
  (fun k => [(b7, true, cel (rowD n fun v => if v < k then 1000000 else 0) 3), (b3, true, cel (scnV n A gs.length c E B m c2) 25)]) (fun k => n - k) 0 (Nat.zero_le _) ⟨rfl, rfl, rfl, rfl, rfl, trivial⟩ (List.Sublist.refl _) ?_
 intro k hk
 with_reducible ((repeat apply xc_seq); apply xcR)
 refine xoM ?_
 refine xoM ?_
 refine xo_len T_ rfl rfl rfl rfl ?_
 refine xo_lss rfl rfl rfl rfl ?_
 with_reducible (apply xo_nil; (repeat first | apply xqT | apply xqB | apply xqS); (repeat apply xc_seq))
 refine xc_cond rfl (fun h => ?_) (fun h => ?_)
 ·have hlt : k < n := by have := of_decide_eq_true h; omega
  with_reducible (apply xc_skip; (repeat first | apply xqT | apply xqB | apply xqS); (repeat apply xc_seq); apply xc_block; (repeat apply xc_seq); apply xcR)
  refine xoM ?_
  refine xoM ?_
  refine xo_ia T_ rfl rfl rfl rfl rfl ⟨by omega, by omega⟩ rfl ?_
  refine xo_storeI T_ (o := 0) (k := (k : Int).toNat * szN 0) (η' := [(b7, true, cel (rowD n fun v => if v < k + 1 then 1000000 else 0) 3), (b3, true, cel (scnV n A gs.length c E B m c2) 25)]) rfl rfl rfl rfl (List.Mem.head _) rfl rfl (by rw [rowD_len, show szN 0 = 1 from rfl, Int.toNat_natCast]; omega) (by rw [rowD_set, rowD_congr (e := fun v => if v < k + 1 then 1000000 else 0) (fun v hv => by (repeat' split) <;> omega)]; exact Upd.head) rfl ?_
  with_reducible (apply xo_nil; (repeat first | apply xqT | apply xqB | apply xqS); (repeat apply xc_seq); apply xcR)
  refine xoM ?_
  refine xo_add rfl rfl rfl (by omega) rfl ?_
  refine xoA ?_
  with_reducible (apply xo_nil; (repeat first | apply xqT | apply xqB | apply xqS))
  exact xq_again _ _ _ _ _ (k + 1) (by omega) (by omega) ⟨rfl, rfl, rfl, rfl, rfl, trivial⟩ (List.Sublist.refl _)
 have hge : k = n := by have := of_decide_eq_false h; omega
 subst hge
 with_reducible (apply xc_exit; (repeat (first | apply xq_blockX | apply xq_thenE | refine xq_blockE rfl ?_ | apply xq_scopeE)); (repeat first | apply xqT | apply xqB | apply xqS); (repeat apply xc_seq); apply xcR)
 refine xoM ?_
 refine xoM ?_
 refine xo_ia T_ rfl rfl rfl rfl rfl ⟨by omega, by omega⟩ rfl ?_
 refine xo_storeI T_ (o := 0) (k := (room : Int).toNat * szN 0) (η' := [(b7, true, cel (rowD k (startB 1000000 room)) 3), (b3, true, cel (scnV k A gs.length c E B m c2) 25)]) rfl rfl rfl rfl (List.Mem.head _) rfl rfl (by rw [rowD_len, show szN 0 = 1 from rfl, Int.toNat_natCast]; omega) (by rw [rowD_set, rowD_congr (e := startB 1000000 room) (fun v hv => by unfold startB; (repeat' split) <;> omega)]; exact Upd.head) rfl ?_
 with_reducible (apply xo_nil; (repeat first | apply xqT | apply xqB | apply xqS); (repeat apply xc_seq); apply xcR)
 refine xoA ?_
 with_reducible (apply xo_nil; (repeat first | apply xqT | apply xqB | apply xqS); (repeat apply xc_seq); apply xc_block)
 refine xc_loop (γ := Nat) (fun q => q ≤ k) (fun q => [(1, .slice Dl l.length cd), (3, .pointer (some ⟨b3, 0, none⟩)), (7, .slice (some ⟨b7, 0, none⟩) k k), (9, .int .i64 (q : Int))])
  (fun q => [(b7, true, cel (rowD k (roundsB (edgesL gs l) (startB 1000000 room) q)) 3), (b3, true, cel (scnV k A gs.length c E B m c2) 25)]) (fun q => k - q) 0 (Nat.zero_le _) ⟨rfl, rfl, rfl, rfl, trivial⟩ (List.Sublist.refl _) ?_
 intro q hq
 with_reducible ((repeat apply xc_seq); apply xcR)
 refine xoM ?_
 refine xo_fa T_ rfl rfl rfl rfl rfl ?_
 refine xo_load0 T_ rfl rfl rfl (by repeat first | exact mH | apply mT | apply mA) rfl rfl ?_
 refine xo_lss rfl rfl rfl rfl ?_
 with_reducible (apply xo_nil; (repeat first | apply xqT | apply xqB | apply xqS); (repeat apply xc_seq))
 refine xc_cond rfl (fun h => ?_) (fun h => ?_)
 ·have hlt : q < k := by have := of_decide_eq_true h; omega
  have hIn := (InN.start room).rounds hes q
  have hnext : roundsB (edgesL gs l) (startB 1000000 room) (q + 1) = roundB (edgesL gs l) (roundsB (edgesL gs l) (startB 1000000 room) q) := rfl
  generalize roundsB (edgesL gs l) (startB 1000000 room) q = d0 at hIn hnext
  with_reducible (apply xc_skip; (repeat first | apply xqT | apply xqB | apply xqS); (repeat apply xc_seq); apply xc_block; (repeat apply xc_seq); apply xcR)
  refine xoA ?_
  with_reducible (apply xo_nil; (repeat first | apply xqT | apply xqB | apply xqS); (repeat apply xc_seq); apply xc_block)
  refine xc_loop (γ := Nat) (fun i => i ≤ gs.length) (fun i => [(1, .slice Dl l.length cd), (3, .pointer (some ⟨b3, 0, none⟩)), (7, .slice (some ⟨b7, 0, none⟩) k k), (9, .int .i64 (q : Int)), (10, .int .i64 (i : Int))])
   (fun i => [(b7, true, cel (rowD k (roundB ((edgesL gs l).take i) d0)) 3), (b3, true, cel (scnV k A gs.length c E B m c2) 25)]) (fun i => gs.length - i) 0 (Nat.zero_le _) ⟨rfl, rfl, rfl, rfl, rfl, trivial⟩ (List.Sublist.refl _) ?_
  intro i hi
  with_reducible ((repeat apply xc_seq); apply xcR)
  refine xoM ?_
  refine xo_fa T_ rfl rfl rfl rfl rfl ?_
  refine xo_load0 T_ rfl rfl rfl (by repeat first | exact mH | apply mT | apply mA) rfl rfl ?_
  refine xo_len T_ rfl rfl rfl rfl ?_
  refine xo_lss rfl rfl rfl rfl ?_
  with_reducible (apply xo_nil; (repeat first | apply xqT | apply xqB | apply xqS); (repeat apply xc_seq))
  refine xc_cond rfl (fun h => ?_) (fun h => ?_)
  ·have hlti : i < gs.length := by have := of_decide_eq_true h; omega
   obtain ⟨ad, rfl, q1⟩ := hA i hlti
   obtain ⟨adl, rfl, q2⟩ := hD i (by omega)
   have hgo := hG.ok _ (getD_mem gs zGat i hlti)
   have hli := hl60 i hlti
   have hst := roundB_take (edgesL gs l) d0 i _ (edges_at hll i hlti)
   have hdI : InN (roundB ((edgesL gs l).take i) d0) := hIn.round fun e he => hes e (List.mem_of_mem_take he)
   generalize roundB ((edgesL gs l).take i) d0 = d at hst hdI
   generalize gs.getD i zGat = g at q1 hgo hst
   generalize l.getD i 0 = x at q2 hli hst
   obtain ⟨g0, g1, g2⟩ := g
   simp only at hgo
   obtain ⟨a, rfl⟩ : ∃ a : Nat, g0 = a := ⟨g0.toNat, by omega⟩
   obtain ⟨b, rfl⟩ : ∃ b : Nat, g1 = b := ⟨g1.toNat, by omega⟩
   have ha : a < k := by omega
   have hb : b < k := by omega
   have hne : a ≠ b := by omega
   have hst : roundB ((edgesL gs l).take (i + 1)) d0 = relax d (a, b, x) := hst
   have hda := hdI a
   have hdb := hdI b
   with_reducible (apply xc_skip; (repeat first | apply xqT | apply xqB | apply xqS); (repeat apply xc_seq); apply xc_block)
   refine xc_slots [(1, .slice (some adl) l.length cd), (3, .pointer (some ⟨b3, 0, none⟩)), (7, .slice (some ⟨b7, 0, none⟩) k k), (9, .int .i64 (q : Int)), (10, .int .i64 (i : Int))] ⟨rfl, rfl, rfl, rfl, rfl, trivial⟩ ?_
   with_reducible (repeat apply xc_seq)
   apply xc_drawN
   ·exact T_.mixed
   ·rfl
   ·rfl
   ·rfl
   ·rfl
   ·apply DrawOps.cons
    ·intro τ
     refine xo_fa T_ rfl rfl rfl rfl rfl ?_
     exact xo_fin rfl
    apply DrawOps.cons
    ·intro τ
     refine xo_load0 T_ rfl rfl rfl (by repeat first | exact mH | apply mT | apply mA) rfl rfl ?_
     exact xo_fin rfl
    apply DrawOps.cons
    ·intro τ
     refine xoM ?_
     exact xo_fin rfl
    apply DrawOps.cons
    ·intro τ
     refine xo_ia T_ rfl rfl rfl rfl rfl ⟨by omega, by omega⟩ rfl ?_
     exact xo_fin rfl
    apply DrawOps.cons
    ·intro τ
     refine xo_faR T_ rfl rfl rfl rfl rfl ?_
     exact xo_fin rfl
    apply DrawOps.cons
    ·intro τ
     refine xo_loadR0 T_ rfl rfl rfl (RO.fld (v := .int .i64 (a : Int)) q1 rfl) rfl ?_
     exact xo_fin rfl
    apply DrawOps.cons
    ·intro τ
     refine xo_fa T_ rfl rfl rfl rfl rfl ?_
     exact xo_fin rfl
    apply DrawOps.cons
    ·intro τ
     refine xo_load0 T_ rfl rfl rfl (by repeat first | exact mH | apply mT | apply mA) rfl rfl ?_
     exact xo_fin rfl
    apply DrawOps.cons
    ·intro τ
     refine xoM ?_
     exact xo_fin rfl
    apply DrawOps.cons
    ·intro τ
     refine xo_ia T_ rfl rfl rfl rfl rfl ⟨by omega, by omega⟩ rfl ?_
     exact xo_fin rfl
    apply DrawOps.cons
    ·intro τ
     refine xo_faR T_ rfl rfl rfl rfl rfl ?_
     exact xo_fin rfl
    apply DrawOps.cons
    ·intro τ
     refine xo_loadR0 T_ rfl rfl rfl (RO.fld (v := .int .i64 (b : Int)) q1 rfl) rfl ?_
     exact xo_fin rfl
    apply DrawOps.cons
    ·intro τ
     refine xoA ?_
     exact xo_fin rfl
    apply DrawOps.cons
    ·intro τ
     refine xoA ?_
     exact xo_fin rfl
    exact DrawOps.nil
   ·rfl
   with_reducible (repeat first | apply xqT | apply xqB | apply xqS)
   refine xc_slots [(1, .slice (some adl) l.length cd), (3, .pointer (some ⟨b3, 0, none⟩)), (7, .slice (some ⟨b7, 0, none⟩) k k), (9, .int .i64 (q : Int)), (10, .int .i64 (i : Int)), (11, .int .i64 (a : Int)), (12, .int .i64 (b : Int))] ⟨rfl, rfl, rfl, rfl, rfl, rfl, rfl, trivial⟩ ?_
   with_reducible (repeat apply xc_seq)
   apply xc_drawE (fun g => []) (fun (η0 : Hp) g => match g with | [] => (η0) | a0 :: [] => ([(b7, true, cel (rowD k (fun v => if v = a then (if d b + x < d a then d b + x else d a) else d v)) 3), (b3, true, cel (scnV k (some ad) gs.length c E B m c2) 25)]) | a0 :: a1 :: _ => ([(b7, true, cel (rowD k (relax d (a, b, x))) 3), (b3, true, cel (scnV k (some ad) gs.length c E B m c2) 25)])) (fun _ => True) [0, 0, 0, 0, 0, 0, 0, 0, 0, 0, 0, 0, 0, 0, 0, 0, 0, 0, 0, 0, 0, 0, 0, 0, 0, 0, 0, 0, 0, 0, 0, 0, 0, 1, 1, 2] [33, 35] [[32, 17, 0, 1, 4, 5, 6, 7, 8, 9, 10, 11, 12, 13, 14, 15, 16, 17, 21, 25, 29], [34, 31, 33, 0, 1, 2, 3, 4, 5, 6, 7, 8, 9, 10, 11, 12, 13, 14, 15, 16, 17, 18, 19, 20, 21, 22, 23, 24, 25, 26, 27, 28, 29, 30, 31, 32, 33]] (by trivial)
   apply SameLen.cons
   apply SameLen.cons
   apply SameLen.cons
   apply SameLen.cons
   apply SameLen.cons
   apply SameLen.cons
   apply SameLen.cons
   apply SameLen.cons
   apply SameLen.cons
   apply SameLen.cons
   apply SameLen.cons
   apply SameLen.cons
   apply SameLen.cons
   apply SameLen.cons
   apply SameLen.cons
   apply SameLen.cons
   apply SameLen.cons
   apply SameLen.cons
   apply SameLen.cons
   apply SameLen.cons
   apply SameLen.cons
   apply SameLen.cons
   apply SameLen.cons
   apply SameLen.cons
   apply SameLen.cons
   apply SameLen.cons
   apply SameLen.cons
   apply SameLen.cons
   apply SameLen.cons
   apply SameLen.cons
   apply SameLen.cons
   apply SameLen.cons
   apply SameLen.cons
   apply SameLen.cons
   apply SameLen.cons
   apply SameLen.cons
   exact SameLen.nil
   rotate_left 36
   case hH0 => rfl
   case hmix => exact T_.mixed
   case hbind => rfl
   case hdeps => rfl
   case hdist => rfl
   case hfresh => rfl
   case hE => rfl
   case hEn => decide
   ·refine DrawE.pure 0 0 rfl (.inr (by decide)) (fun L g hg hd => Nat.zero_le _) (fun g hlo hhi hF τ => ?_) ?_
    ·rcases g with _ | ⟨a0, _ | ⟨a1, _ | ⟨a2, g⟩⟩⟩ <;> first | (simp only [lenC, lenN] at hlo hhi; omega) | (refine ⟨_, rfl, ?_⟩; refine xoM ?_; exact xo_fin rfl)
    refine DrawE.pure 0 0 rfl (.inr (by decide)) (fun L g hg hd => Nat.zero_le _) (fun g hlo hhi hF τ => ?_) ?_
    ·rcases g with _ | ⟨a0, _ | ⟨a1, _ | ⟨a2, g⟩⟩⟩ <;> first | (simp only [lenC, lenN] at hlo hhi; omega) | (refine ⟨_, rfl, ?_⟩; refine xoM ?_; exact xo_fin rfl)
    refine DrawE.pure 0 1 rfl (.inr (by decide)) (fun L g hg hd => Nat.zero_le _) (fun g hlo hhi hF τ => ?_) ?_
    ·rcases g with _ | ⟨a0, _ | ⟨a1, _ | ⟨a2, g⟩⟩⟩ <;> first | (simp only [lenC, lenN] at hlo hhi; omega) | (refine ⟨_, rfl, ?_⟩; refine xoM ?_; exact xo_fin rfl)
    refine DrawE.pure 0 1 rfl (.inr (by decide)) (fun L g hg hd => Nat.zero_le _) (fun g hlo hhi hF τ => ?_) ?_
    ·rcases g with _ | ⟨a0, _ | ⟨a1, _ | ⟨a2, g⟩⟩⟩ <;> first | (simp only [lenC, lenN] at hlo hhi; omega) | (refine ⟨_, rfl, ?_⟩; refine xoM ?_; exact xo_fin rfl)
    refine DrawE.pure 0 0 rfl (.inr (by decide)) (fun L g hg hd => Nat.zero_le _) (fun g hlo hhi hF τ => ?_) ?_
    ·rcases g with _ | ⟨a0, _ | ⟨a1, _ | ⟨a2, g⟩⟩⟩ <;> first | (simp only [lenC, lenN] at hlo hhi; omega) | (refine ⟨_, rfl, ?_⟩; refine xoM ?_; exact xo_fin rfl)
    refine DrawE.pure 0 0 rfl (.inr (by decide)) (fun L g hg hd => Nat.zero_le _) (fun g hlo hhi hF τ => ?_) ?_
    ·rcases g with _ | ⟨a0, _ | ⟨a1, _ | ⟨a2, g⟩⟩⟩ <;> first | (simp only [lenC, lenN] at hlo hhi; omega) | (refine ⟨_, rfl, ?_⟩; refine xoM ?_; exact xo_fin rfl)
    refine DrawE.pure 0 0 rfl (.inr (by decide)) (fun L g hg hd => Nat.zero_le _) (fun g hlo hhi hF τ => ?_) ?_
    ·rcases g with _ | ⟨a0, _ | ⟨a1, _ | ⟨a2, g⟩⟩⟩ <;> first | (simp only [lenC, lenN] at hlo hhi; omega) | (refine ⟨_, rfl, ?_⟩; refine xo_ia T_ rfl rfl rfl rfl rfl ⟨by omega, by omega⟩ rfl ?_; exact xo_fin rfl)
    refine DrawE.pure 0 0 rfl (.inr (by decide)) (fun L g hg hd => Nat.zero_le _) (fun g hlo hhi hF τ => ?_) ?_
    ·rcases g with _ | ⟨a0, _ | ⟨a1, _ | ⟨a2, g⟩⟩⟩ <;> first | (simp only [lenC, lenN] at hlo hhi; omega) | (refine ⟨_, rfl, ?_⟩; refine xo_loadI T_ (o := 0) (k := (a : Int).toNat * szN 0) (v := .int .i64 (d a)) rfl rfl rfl (List.Mem.head _) (rowD_at d ha) rfl ?_; exact xo_fin rfl)
    refine DrawE.pure 0 0 rfl (.inr (by decide)) (fun L g hg hd => Nat.zero_le _) (fun g hlo hhi hF τ => ?_) ?_
    ·rcases g with _ | ⟨a0, _ | ⟨a1, _ | ⟨a2, g⟩⟩⟩ <;> first | (simp only [lenC, lenN] at hlo hhi; omega) | (refine ⟨_, rfl, ?_⟩; refine xoM ?_; exact xo_fin rfl)
    refine DrawE.pure 0 0 rfl (.inr (by decide)) (fun L g hg hd => Nat.zero_le _) (fun g hlo hhi hF τ => ?_) ?_
    ·rcases g with _ | ⟨a0, _ | ⟨a1, _ | ⟨a2, g⟩⟩⟩ <;> first | (simp only [lenC, lenN] at hlo hhi; omega) | (refine ⟨_, rfl, ?_⟩; refine xoM ?_; exact xo_fin rfl)
    refine DrawE.pure 0 0 rfl (.inr (by decide)) (fun L g hg hd => Nat.zero_le _) (fun g hlo hhi hF τ => ?_) ?_
    ·rcases g with _ | ⟨a0, _ | ⟨a1, _ | ⟨a2, g⟩⟩⟩ <;> first | (simp only [lenC, lenN] at hlo hhi; omega) | (refine ⟨_, rfl, ?_⟩; refine xo_ia T_ rfl rfl rfl rfl rfl ⟨by omega, by omega⟩ rfl ?_; exact xo_fin rfl)
    refine DrawE.pure 0 0 rfl (.inr (by decide)) (fun L g hg hd => Nat.zero_le _) (fun g hlo hhi hF τ => ?_) ?_
    ·rcases g with _ | ⟨a0, _ | ⟨a1, _ | ⟨a2, g⟩⟩⟩ <;> first | (simp only [lenC, lenN] at hlo hhi; omega) | (refine ⟨_, rfl, ?_⟩; refine xo_loadI T_ (o := 0) (k := (b : Int).toNat * szN 0) (v := .int .i64 (d b)) rfl rfl rfl (List.Mem.head _) (rowD_at d hb) rfl ?_; exact xo_fin rfl)
    refine DrawE.pure 0 0 rfl (.inr (by decide)) (fun L g hg hd => Nat.zero_le _) (fun g hlo hhi hF τ => ?_) ?_
    ·rcases g with _ | ⟨a0, _ | ⟨a1, _ | ⟨a2, g⟩⟩⟩ <;> first | (simp only [lenC, lenN] at hlo hhi; omega) | (refine ⟨_, rfl, ?_⟩; refine xoM ?_; exact xo_fin rfl)
    refine DrawE.pure 0 0 rfl (.inr (by decide)) (fun L g hg hd => Nat.zero_le _) (fun g hlo hhi hF τ => ?_) ?_
    ·rcases g with _ | ⟨a0, _ | ⟨a1, _ | ⟨a2, g⟩⟩⟩ <;> first | (simp only [lenC, lenN] at hlo hhi; omega) | (refine ⟨_, rfl, ?_⟩; refine xoM ?_; exact xo_fin rfl)
    refine DrawE.pure 0 0 rfl (.inr (by decide)) (fun L g hg hd => Nat.zero_le _) (fun g hlo hhi hF τ => ?_) ?_
    ·rcases g with _ | ⟨a0, _ | ⟨a1, _ | ⟨a2, g⟩⟩⟩ <;> first | (simp only [lenC, lenN] at hlo hhi; omega) | (refine ⟨_, rfl, ?_⟩; refine xo_ia T_ rfl rfl rfl rfl rfl ⟨by omega, by omega⟩ rfl ?_; exact xo_fin rfl)
    refine DrawE.pure 0 0 rfl (.inr (by decide)) (fun L g hg hd => Nat.zero_le _) (fun g hlo hhi hF τ => ?_) ?_
    ·rcases g with _ | ⟨a0, _ | ⟨a1, _ | ⟨a2, g⟩⟩⟩ <;> first | (simp only [lenC, lenN] at hlo hhi; omega) | (refine ⟨_, rfl, ?_⟩; refine xo_loadR0 T_ rfl rfl rfl q2 rfl ?_; exact xo_fin rfl)
    refine DrawE.pure 0 0 rfl (.inr (by decide)) (fun L g hg hd => Nat.zero_le _) (fun g hlo hhi hF τ => ?_) ?_
    ·rcases g with _ | ⟨a0, _ | ⟨a1, _ | ⟨a2, g⟩⟩⟩ <;> first | (simp only [lenC, lenN] at hlo hhi; omega) | (refine ⟨_, rfl, ?_⟩; refine xo_add rfl rfl rfl (by omega) rfl ?_; exact xo_fin rfl)
    refine DrawE.pure 0 0 rfl (.inr (by decide)) (fun L g hg hd => Nat.zero_le _) (fun g hlo hhi hF τ => ?_) ?_
    ·rcases g with _ | ⟨a0, _ | ⟨a1, _ | ⟨a2, g⟩⟩⟩ <;> first | (simp only [lenC, lenN] at hlo hhi; omega) | (refine ⟨_, rfl, ?_⟩; refine xo_min rfl rfl rfl rfl ?_; exact xo_fin rfl)
    refine DrawE.pure 0 1 rfl (.inr (by decide)) (fun L g hg hd => Nat.zero_le _) (fun g hlo hhi hF τ => ?_) ?_
    ·rcases g with _ | ⟨a0, _ | ⟨a1, _ | ⟨a2, g⟩⟩⟩ <;> first | (simp only [lenC, lenN] at hlo hhi; omega) | (refine ⟨_, rfl, ?_⟩; refine xoM ?_; exact xo_fin rfl)
    refine DrawE.pure 0 1 rfl (.inr (by decide)) (fun L g hg hd => Nat.zero_le _) (fun g hlo hhi hF τ => ?_) ?_
    ·rcases g with _ | ⟨a0, _ | ⟨a1, _ | ⟨a2, g⟩⟩⟩ <;> first | (simp only [lenC, lenN] at hlo hhi; omega) | (refine ⟨_, rfl, ?_⟩; refine xoM ?_; exact xo_fin rfl)
    refine DrawE.pure 0 1 rfl (.inr (by decide)) (fun L g hg hd => Nat.zero_le _) (fun g hlo hhi hF τ => ?_) ?_
    ·rcases g with _ | ⟨a0, _ | ⟨a1, _ | ⟨a2, g⟩⟩⟩ <;> first | (simp only [lenC, lenN] at hlo hhi; omega) | (refine ⟨_, rfl, ?_⟩; refine xo_ia T_ rfl rfl rfl rfl rfl ⟨by omega, by omega⟩ rfl ?_; exact xo_fin rfl)
    refine DrawE.pure 0 0 rfl (.inr (by decide)) (fun L g hg hd => Nat.zero_le _) (fun g hlo hhi hF τ => ?_) ?_
    ·rcases g with _ | ⟨a0, _ | ⟨a1, _ | ⟨a2, g⟩⟩⟩ <;> first | (simp only [lenC, lenN] at hlo hhi; omega) | (refine ⟨_, rfl, ?_⟩; refine xo_loadI T_ (o := 0) (k := (b : Int).toNat * szN 0) (v := .int .i64 (d b)) rfl rfl rfl (List.Mem.head _) (rowD_at d hb) rfl ?_; exact xo_fin rfl)
    refine DrawE.pure 0 1 rfl (.inr (by decide)) (fun L g hg hd => Nat.zero_le _) (fun g hlo hhi hF τ => ?_) ?_
    ·rcases g with _ | ⟨a0, _ | ⟨a1, _ | ⟨a2, g⟩⟩⟩ <;> first | (simp only [lenC, lenN] at hlo hhi; omega) | (refine ⟨_, rfl, ?_⟩; refine xoM ?_; exact xo_fin rfl)
    refine DrawE.pure 0 1 rfl (.inr (by decide)) (fun L g hg hd => Nat.zero_le _) (fun g hlo hhi hF τ => ?_) ?_
    ·rcases g with _ | ⟨a0, _ | ⟨a1, _ | ⟨a2, g⟩⟩⟩ <;> first | (simp only [lenC, lenN] at hlo hhi; omega) | (refine ⟨_, rfl, ?_⟩; refine xoM ?_; exact xo_fin rfl)
    refine DrawE.pure 0 1 rfl (.inr (by decide)) (fun L g hg hd => Nat.zero_le _) (fun g hlo hhi hF τ => ?_) ?_
    ·rcases g with _ | ⟨a0, _ | ⟨a1, _ | ⟨a2, g⟩⟩⟩ <;> first | (simp only [lenC, lenN] at hlo hhi; omega) | (refine ⟨_, rfl, ?_⟩; refine xo_ia T_ rfl rfl rfl rfl rfl ⟨by omega, by omega⟩ rfl ?_; exact xo_fin rfl)
    refine DrawE.pure 0 0 rfl (.inr (by decide)) (fun L g hg hd => Nat.zero_le _) (fun g hlo hhi hF τ => ?_) ?_
    ·rcases g with _ | ⟨a0, _ | ⟨a1, _ | ⟨a2, g⟩⟩⟩ <;> first | (simp only [lenC, lenN] at hlo hhi; omega) | (refine ⟨_, rfl, ?_⟩; refine xo_loadI T_ (o := 0) (k := (a : Int).toNat * szN 0) (v := .int .i64 (d a)) rfl rfl rfl (List.Mem.head _) (rowD_at d ha) rfl ?_; exact xo_fin rfl)
    refine DrawE.pure 0 1 rfl (.inr (by decide)) (fun L g hg hd => Nat.zero_le _) (fun g hlo hhi hF τ => ?_) ?_
    ·rcases g with _ | ⟨a0, _ | ⟨a1, _ | ⟨a2, g⟩⟩⟩ <;> first | (simp only [lenC, lenN] at hlo hhi; omega) | (refine ⟨_, rfl, ?_⟩; refine xoM ?_; exact xo_fin rfl)
    refine DrawE.pure 0 1 rfl (.inr (by decide)) (fun L g hg hd => Nat.zero_le _) (fun g hlo hhi hF τ => ?_) ?_
    ·rcases g with _ | ⟨a0, _ | ⟨a1, _ | ⟨a2, g⟩⟩⟩ <;> first | (simp only [lenC, lenN] at hlo hhi; omega) | (refine ⟨_, rfl, ?_⟩; refine xoM ?_; exact xo_fin rfl)
    refine DrawE.pure 0 1 rfl (.inr (by decide)) (fun L g hg hd => Nat.zero_le _) (fun g hlo hhi hF τ => ?_) ?_
    ·rcases g with _ | ⟨a0, _ | ⟨a1, _ | ⟨a2, g⟩⟩⟩ <;> first | (simp only [lenC, lenN] at hlo hhi; omega) | (refine ⟨_, rfl, ?_⟩; refine xo_ia T_ rfl rfl rfl rfl rfl ⟨by omega, by omega⟩ rfl ?_; exact xo_fin rfl)
    refine DrawE.pure 0 0 rfl (.inr (by decide)) (fun L g hg hd => Nat.zero_le _) (fun g hlo hhi hF τ => ?_) ?_
    ·rcases g with _ | ⟨a0, _ | ⟨a1, _ | ⟨a2, g⟩⟩⟩ <;> first | (simp only [lenC, lenN] at hlo hhi; omega) | (refine ⟨_, rfl, ?_⟩; refine xo_loadR0 T_ rfl rfl rfl q2 rfl ?_; exact xo_fin rfl)
    refine DrawE.pure 0 1 rfl (.inr (by decide)) (fun L g hg hd => Nat.zero_le _) (fun g hlo hhi hF τ => ?_) ?_
    ·rcases g with _ | ⟨a0, _ | ⟨a1, _ | ⟨a2, g⟩⟩⟩ <;> first | (simp only [lenC, lenN] at hlo hhi; omega) | (refine ⟨_, rfl, ?_⟩; refine xo_add rfl rfl rfl (by omega) rfl ?_; exact xo_fin rfl)
    refine DrawE.pure 0 1 rfl (.inr (by decide)) (fun L g hg hd => Nat.zero_le _) (fun g hlo hhi hF τ => ?_) ?_
    ·rcases g with _ | ⟨a0, _ | ⟨a1, _ | ⟨a2, g⟩⟩⟩ <;> first | (simp only [lenC, lenN] at hlo hhi; omega) | (refine ⟨_, rfl, ?_⟩; refine xo_min rfl rfl rfl rfl ?_; exact xo_fin rfl)
    refine DrawE.pure 0 0 rfl (.inr (by decide)) (fun L g hg hd => Nat.zero_le _) (fun g hlo hhi hF τ => ?_) ?_
    ·rcases g with _ | ⟨a0, _ | ⟨a1, _ | ⟨a2, g⟩⟩⟩ <;> first | (simp only [lenC, lenN] at hlo hhi; omega) | (refine ⟨_, rfl, ?_⟩; refine xo_ia T_ rfl rfl rfl rfl rfl ⟨by omega, by omega⟩ rfl ?_; exact xo_fin rfl)
    refine DrawE.eff 0 rfl (by decide) rfl (fun j hj => hj) (fun j g a hj => ?_) (fun L g hg hd => Nat.zero_le _) (fun g hgl hF τ => ?_) ?_
    ·rcases j with _ | _ | _ | _ | _ | _ | _ | _ | _ | _ | _ | _ | _ | _ | _ | _ | _ | _ | _ | _ | _ | _ | _ | _ | _ | _ | _ | _ | _ | _ | _ | _ | _ | _ | _ | _ | j
     all_goals first | rfl | (rcases g with _ | ⟨a0, _ | ⟨a1, _ | ⟨a2, g⟩⟩⟩ <;> first | rfl | exact absurd hj (by decide) | exact absurd hj (by simp [List.getD]))
    ·obtain rfl : g = [] := by
      rcases g with _ | ⟨a0, g⟩ <;> first | rfl | (exfalso; simp only [List.length_cons, List.length_nil] at hgl; omega)
     refine xo_storeI T_ (o := 0) (k := (a : Int).toNat * szN 0) (η' := [(b7, true, cel (rowD k (fun v => if v = a then (if d b + x < d a then d b + x else d a) else d v)) 3), (b3, true, cel (scnV k (some ad) gs.length c E B m c2) 25)]) rfl rfl rfl rfl (List.Mem.head _) rfl rfl (by rw [rowD_len, show szN 0 = 1 from rfl, Int.toNat_natCast]; omega) (upd_set (rowD_set d a (if d b + x < d a then d b + x else d a))) rfl ?_
     exact xo_finE ⟨0, 0, none⟩ rfl trivial
    refine DrawE.pure 1 1 rfl (.inr (by decide)) (fun L g hg hd => hg.2.1 33 (hd 33 (by decide))) (fun g hlo hhi hF τ => ?_) ?_
    ·rcases g with _ | ⟨a0, _ | ⟨a1, _ | ⟨a2, g⟩⟩⟩ <;> first | (simp only [lenC, lenN] at hlo hhi; omega) | (refine ⟨_, rfl, ?_⟩; refine xo_ia T_ rfl rfl rfl rfl rfl ⟨by omega, by omega⟩ rfl ?_; exact xo_fin rfl)
    refine DrawE.eff 1 rfl (by decide) rfl (fun j hj => hj) (fun j g a hj => ?_) (fun L g hg hd => hg.2.1 34 (hd 34 (by decide))) (fun g hgl hF τ => ?_) ?_
    ·rcases j with _ | _ | _ | _ | _ | _ | _ | _ | _ | _ | _ | _ | _ | _ | _ | _ | _ | _ | _ | _ | _ | _ | _ | _ | _ | _ | _ | _ | _ | _ | _ | _ | _ | _ | _ | _ | j
     all_goals first | rfl | (rcases g with _ | ⟨a0, _ | ⟨a1, _ | ⟨a2, g⟩⟩⟩ <;> first | rfl | exact absurd hj (by decide) | exact absurd hj (by simp [List.getD]))
    ·obtain ⟨a0, rfl⟩ : ∃ a0, g = [a0] := by
      rcases g with _ | ⟨a0, _ | ⟨a1, _ | ⟨a2, g⟩⟩⟩ <;> first | exact ⟨_, rfl⟩ | rfl | (exfalso; simp only [List.length_cons, List.length_nil] at hgl; omega)
     refine xo_storeI T_ (o := 0) (k := (b : Int).toNat * szN 0) (η' := [(b7, true, cel (rowD k (relax d (a, b, x))) 3), (b3, true, cel (scnV k (some ad) gs.length c E B m c2) 25)]) rfl rfl rfl rfl (List.Mem.head _) rfl rfl (by rw [rowD_len, show szN 0 = 1 from rfl, Int.toNat_natCast]; omega) (upd_set ((rowD_set (fun v => if v = a then (if d b + x < d a then d b + x else d a) else d v) b (if d a + x < d b then d a + x else d b)).trans (by rw [relax_two d a b x hne]))) rfl ?_
     exact xo_finE ⟨0, 0, none⟩ rfl trivial
    exact DrawE.nil
   intro g hgl hF
   obtain ⟨a0, a1, rfl⟩ : ∃ a0 a1, g = [a0, a1] := by
    rcases g with _ | ⟨a0, _ | ⟨a1, _ | ⟨a2, g⟩⟩⟩ <;> first | exact ⟨_, _, rfl⟩ | (exfalso; simp only [List.length_cons, List.length_nil] at hgl; omega)
   with_reducible (repeat first | apply xqT | apply xqB | apply xqS)
   refine xc_slots [(1, .slice (some adl) l.length cd), (3, .pointer (some ⟨b3, 0, none⟩)), (7, .slice (some ⟨b7, 0, none⟩) k k), (9, .int .i64 (q : Int)), (10, .int .i64 (i : Int))] ⟨rfl, rfl, rfl, rfl, rfl, trivial⟩ ?_
   with_reducible ((repeat apply xc_seq); apply xcR)
   refine xoM ?_
   refine xo_add rfl rfl rfl (by omega) rfl ?_
   refine xoA ?_
   with_reducible (apply xo_nil; (repeat first | apply xqT | apply xqB | apply xqS))
   exact xq_again _ _ _ _ _ (i + 1) (by omega) (by omega) ⟨rfl, rfl, rfl, rfl, rfl, trivial⟩ (by rw [hst]; exact List.Sublist.refl _)
  have hgei : i = gs.length := by have := of_decide_eq_false h; omega
  subst hgei
  rw [List.take_of_length_le (by rw [edges_len hll]; exact Nat.le_refl _), ← hnext]
  with_reducible (apply xc_exit; (repeat (first | apply xq_blockX | apply xq_thenE | refine xq_blockE rfl ?_ | apply xq_scopeE)); (repeat first | apply xqT | apply xqB | apply xqS); (repeat apply xc_seq); apply xcR)
  refine xoM ?_
  refine xo_add rfl rfl rfl (by omega) rfl ?_
  refine xoA ?_
  with_reducible (apply xo_nil; (repeat first | apply xqT | apply xqB | apply xqS))
  exact xq_again _ _ _ _ _ (q + 1) (by omega) (by omega) ⟨rfl, rfl, rfl, rfl, trivial⟩ (List.Sublist.refl _)
 have hge : q = k := by have := of_decide_eq_false h; omega
 subst hge
 with_reducible (apply xc_exit; (repeat (first | apply xq_blockX | apply xq_thenE | refine xq_blockE rfl ?_ | apply xq_scopeE)); (repeat first | apply xqT | apply xqB | apply xqS); (repeat apply xc_seq); apply xcR)
 refine xoM ?_
 refine xoA ?_
 with_reducible (apply xo_nil; (repeat first | apply xqT | apply xqB | apply xqS); (repeat apply xc_seq); apply xc_ret; (repeat (first | apply xq_thenR | apply xq_blockR | apply xq_scopeR)))
 exact xq_ret1 rfl rfl fun w' hw => ⟨b7, rfl, hw.sub (List.Sublist.cons_cons _ (List.nil_sublist _))⟩
theorem far_enters : ∀ args w, (callFunc 42 args).run Tryd.prog w = .ok (.enter 42 args) w := enters_of Tryd.func42 (by kernel_rfl) rfl
end Go.Proofs.YtommeljlfkmpjaaDoor
