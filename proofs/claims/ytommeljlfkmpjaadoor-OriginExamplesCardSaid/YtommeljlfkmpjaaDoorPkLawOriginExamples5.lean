/- origin: the table of kinds, what is right and what is said by a mark of each kind. -/
import Derived.Test.YtommeljlfkmpjaaDoorPkLawOriginExamples4
set_option linter.unusedVariables false
set_option linter.unusedSimpArgs false
namespace Go.Proofs.YtommeljlfkmpjaaDoor
open Go.RowKit Go.Proofs.YtommeljlfkmpjaaDoorW.PrintWords
def rightK (k : Int) : Nat := if k ≤ 0 then 62 else if k ≤ 3 then 63 else if k ≤ 5 then 69 else 72
def saysK (k : Int) : Nat := if k ≤ 1 then 64 else if k ≤ 2 then 67 else if k ≤ 3 then 68 else if k ≤ 4 then 70 else if k ≤ 5 then 71 else 73
def fnV (k : Nat) : Value := .func (.func k) #[] #[]
def kindsV : List Value := [fnV (rightK 0), .nilFunc, fnV (rightK 1), fnV (saysK 1), fnV (rightK 2), fnV (saysK 2), fnV (rightK 3), fnV (saysK 3), fnV (rightK 4), fnV (saysK 4), fnV (rightK 5), fnV (saysK 5), fnV (rightK 6), fnV (saysK 6)]
theorem six {φ : Int → Prop} {k : Int} (h : 1 ≤ k ∧ k ≤ 6) (h1 : φ 1) (h2 : φ 2) (h3 : φ 3) (h4 : φ 4) (h5 : φ 5) (h6 : φ 6) : φ k := by
 rcases (show k = 1 ∨ k = 2 ∨ k = 3 ∨ k = 4 ∨ k = 5 ∨ k = 6 by omega) with rfl | rfl | rfl | rfl | rfl | rfl <;> assumption
theorem kinds_built (w : World) : (Instr.build 93 #[(0, .agg #[fnV (rightK 0), .nilFunc]), (1, .agg #[fnV (rightK 1), fnV (saysK 1)]), (2, .agg #[fnV (rightK 2), fnV (saysK 2)]), (3, .agg #[fnV (rightK 3), fnV (saysK 3)]), (4, .agg #[fnV (rightK 4), fnV (saysK 4)]), (5, .agg #[fnV (rightK 5), fnV (saysK 5)]), (6, .agg #[fnV (rightK 6), fnV (saysK 6)])]).run Tryd.prog w = .ok (.agg kindsV.toArray) w := by
 go_simp
 rfl
theorem kinds_ix {k : Int} (h : 1 ≤ k ∧ k ≤ 6) (w : World) : (Instr.index 93 (.agg kindsV.toArray) (.int .u8 k)).run Tryd.prog w = .ok (.agg #[fnV (rightK k), fnV (saysK k)]) w := by
 refine six (φ := fun k => (Instr.index 93 (.agg kindsV.toArray) (.int .u8 k)).run Tryd.prog w = .ok (.agg #[fnV (rightK k), fnV (saysK k)]) w) h ?_ ?_ ?_ ?_ ?_ ?_
 all_goals
  unfold Instr.index kindsV
  have h1 : ∀ w, (isAgg 92).run Tryd.prog w = .ok true w := (T_.htk (92, 2) (look_mem rfl)).1
  have h2 : ∀ w, (sizeOf 92).run Tryd.prog w = .ok 2 w := (T_.htk (92, 2) (look_mem rfl)).2
  have h3 : ∀ w, (underlying 93).run Tryd.prog w = .ok (.array 7 92) w := run_underlying Tryd.underlying93
  simp [asIntOf, h3, h2, part, h1]
theorem kinds_f0 (u v : Value) (w : World) : (Instr.field 92 (.agg #[u, v]) 0).run Tryd.prog w = .ok u w := by
 unfold Instr.field
 simp [run_underlying Tryd.underlying92, part, asAgg, go_sem, (T_.htk (89, 0) (look_mem rfl)).1]
theorem kindsV_says {k : Int} (h : 1 ≤ k ∧ k ≤ 6) : nth (0 + k.toNat * szN 2 + 1) kindsV = some (fnV (saysK k)) := six (φ := fun k => nth (0 + k.toNat * szN 2 + 1) kindsV = some (fnV (saysK k))) h rfl rfl rfl rfl rfl rfl
set_option maxHeartbeats 4000000 in
theorem kinds_calls (w : World) : Calls Tryd.prog 44 #[] w fun e w' => e = .returned (.agg kindsV.toArray) ∧ Below w.heap.size w w' := by
 refine x_calls (X := XNone) (vs := []) Tryd.func44 rfl rfl rfl ?_
 with_reducible ((repeat apply xc_seq); apply xcR)
 refine xo_alloc T_ rfl rfl rfl rfl (fun b0 => ?_)
 with_reducible (apply xo_nil; (repeat first | apply xqT | apply xqB | apply xqS); (repeat apply xc_seq); apply xcR)
 refine xo_build TB_ rfl rfl rfl rfl rfl ?_
 refine xo_build TB_ rfl rfl rfl rfl rfl ?_
 refine xo_build TB_ rfl rfl rfl rfl rfl ?_
 refine xo_build TB_ rfl rfl rfl rfl rfl ?_
 refine xo_build TB_ rfl rfl rfl rfl rfl ?_
 refine xo_build TB_ rfl rfl rfl rfl rfl ?_
 refine xo_build TB_ rfl rfl rfl rfl rfl ?_
 refine xo_buildV rfl rfl kinds_built rfl ?_
 refine xo_store T_ rfl rfl rfl rfl (by repeat first | exact mH | apply mT | apply mA) rfl rfl rfl rfl (by repeat first | exact Upd.head | apply Upd.tail | apply Upd.app) rfl ?_
 with_reducible (apply xo_nil; (repeat first | apply xqT | apply xqB | apply xqS); (repeat apply xc_seq); apply xc_ret; (repeat (first | apply xq_thenR | apply xq_blockR | apply xq_scopeR)))
 exact xq_retC T_ rfl rfl rfl (by repeat first | exact mH | apply mT | apply mA) rfl fun w' hw => ⟨rfl, hw.kx.below⟩
theorem kinds_enters : ∀ args w, (callFunc 44 args).run Tryd.prog w = .ok (.enter 44 args) w := enters_of Tryd.func44 (by kernel_rfl) rfl
theorem in2_calls {w0 : World} {X : Nat → Prop} {η : Hp} {w : World} (hw : WOK w0 X η w) (lo hi x y : Int) {b : Nat} {wr : Bool} {t : TypeId} (hm : (b, wr, cel [.int .i64 x, .int .i64 y] t) ∈ η) :
  Calls Tryd.prog 38 #[.int .i64 lo, .int .i64 hi, .slice (some ⟨b, 0, none⟩) 2 2] w fun e w' => e = .returned (.bool (inF lo hi x && inF lo hi y)) ∧ Below w.heap.size w w' := by
 have e : (!([x, y].any fun x => decide (x < lo) || decide (hi < x))) = (inF lo hi x && inF lo hi y) := by
  unfold inF
  rw [Bool.eq_iff_iff]
  simp <;> omega
 rw [← e]
 exact origin_in.calls lo hi (some ⟨b, 0, none⟩) 2 [x, y] _ w (C_cel hw (xs := [x, y]) hm (by simp)) (by simp) rfl
def ordF (lo hi : Int) (s : SpaT) : Bool := inF lo hi s.f0 && inF lo hi s.f1 && decide (s.f0 ≤ s.f1)
set_option maxHeartbeats 4000000 in
theorem ordered_calls (lo hi : Int) (s : SpaT) (w : World) : Calls Tryd.prog 43 #[.int .i64 lo, .int .i64 hi, .agg (spaV s).toArray] w fun e w' => e = .returned (.bool (ordF lo hi s)) ∧ Below w.heap.size w w' := by
 refine x_calls (X := XNone) Tryd.func43 rfl rfl rfl ?_
 with_reducible ((repeat apply xc_seq); apply xcR)
 refine xo_box rfl rfl rfl rfl (fun b5 => ?_)
 refine xoA ?_
 with_reducible (apply xo_nil; (repeat first | apply xqT | apply xqB | apply xqS))
 unfold ordF
 cases h : (inF lo hi s.f0 && inF lo hi s.f1)
 all_goals
  with_reducible ((repeat apply xc_seq); apply xcR)
  refine xoM ?_
  refine xoM ?_
  refine xo_fa T_ rfl rfl rfl rfl rfl ?_
  refine xo_load0 T_ rfl rfl rfl (by repeat first | exact mH | apply mT | apply mA) rfl rfl ?_
  refine xo_fa T_ rfl rfl rfl rfl rfl ?_
  refine xo_load0 T_ rfl rfl rfl (by repeat first | exact mH | apply mT | apply mA) rfl rfl ?_
  refine xo_bs2 T_ rfl rfl rfl rfl rfl rfl rfl rfl rfl rfl (fun b13 => ?_)
  refine xo_callB (fs := []) (cs := []) rfl rfl rfl in_enters rfl (fun w1 hw1 => in2_calls hw1 lo hi s.f0 s.f1 (by repeat first | exact mH | apply mT | apply mA)) ?_
  refine xo_as (i := 14) rfl (congrArg Value.bool h) ?_
  refine xoM ?_
  (first | refine xoN ?_ | refine xo_fa T_ rfl rfl rfl rfl rfl ?_)
  (first | refine xoN ?_ | refine xo_load0 T_ rfl rfl rfl (by repeat first | exact mH | apply mT | apply mA) rfl rfl ?_)
  (first | refine xoN ?_ | refine xo_fa T_ rfl rfl rfl rfl rfl ?_)
  (first | refine xoN ?_ | refine xo_load0 T_ rfl rfl rfl (by repeat first | exact mH | apply mT | apply mA) rfl rfl ?_)
  (first | refine xoN ?_ | refine xo_leq rfl rfl rfl rfl ?_)
  first | refine xo_pickT rfl rfl rfl rfl ?_ | refine xo_pickF rfl rfl rfl rfl ?_
  refine xoA ?_
  with_reducible (apply xo_nil; (repeat first | apply xqT | apply xqB | apply xqS); (repeat apply xc_seq); apply xc_ret; (repeat (first | apply xq_thenR | apply xq_blockR | apply xq_scopeR)))
  exact (xq_ret1 rfl rfl fun w' hw => ⟨rfl, hw.kx.below⟩)
theorem ordered_enters : ∀ args w, (callFunc 43 args).run Tryd.prog w = .ok (.enter 43 args) w := enters_of Tryd.func43 (by kernel_rfl) rfl
set_option maxHeartbeats 4000000 in
theorem timed_calls (sv : Value) (m : MarT) (w : World) : Calls Tryd.prog 63 #[sv, .agg (marV m).toArray] w fun e w' => e = .returned (.bool (timedF m)) ∧ Below w.heap.size w w' := by
 refine x_calls (X := XNone) Tryd.func63 rfl rfl rfl ?_
 with_reducible ((repeat apply xc_seq); apply xcR)
 refine xo_box rfl rfl rfl rfl (fun b2 => ?_)
 refine xo_box rfl rfl rfl rfl (fun b3 => ?_)
 refine xoA ?_
 with_reducible (apply xo_nil; (repeat first | apply xqT | apply xqB | apply xqS))
 unfold timedF
 cases h : ordF 0 600 m.f4
 ·have h' := h
  unfold ordF at h'
  rw [h']
  with_reducible ((repeat apply xc_seq); apply xcR)
  refine xo_fa T_ rfl rfl rfl rfl rfl ?_
  refine xo_loadN T_ rfl rfl rfl (by repeat first | exact mH | apply mT | apply mA) rfl rfl ?_
  refine xo_callB (fs := []) (cs := []) rfl rfl rfl ordered_enters rfl (fun w1 hw1 => ordered_calls 0 600 m.f4 w1) ?_
  refine xo_as (i := 7) rfl (congrArg Value.bool h) ?_
  refine xoM ?_
  (first | refine xoN ?_ | refine xo_fa T_ rfl rfl rfl rfl rfl ?_)
  (first | refine xoN ?_ | refine xo_load0 T_ rfl rfl rfl (by repeat first | exact mH | apply mT | apply mA) rfl rfl ?_)
  (first | refine xoN ?_ | refine xo_eql rfl rfl rfl rfl ?_)
  first | refine xo_pickT rfl rfl rfl rfl ?_ | refine xo_pickF rfl rfl rfl rfl ?_
  refine xoM ?_
  (first | refine xoN ?_ | refine xo_fa T_ rfl rfl rfl rfl rfl ?_)
  (first | refine xoN ?_ | refine xo_load0 T_ rfl rfl rfl (by repeat first | exact mH | apply mT | apply mA) rfl rfl ?_)
  (first | refine xoN ?_ | refine xo_eql rfl rfl rfl rfl ?_)
  first | refine xo_pickT rfl rfl rfl rfl ?_ | refine xo_pickF rfl rfl rfl rfl ?_
  refine xoA ?_
  with_reducible (apply xo_nil; (repeat first | apply xqT | apply xqB | apply xqS); (repeat apply xc_seq); apply xc_ret; (repeat (first | apply xq_thenR | apply xq_blockR | apply xq_scopeR)))
  exact (xq_ret1 rfl rfl fun w' hw => ⟨rfl, hw.kx.below⟩)
 ·have h' := h
  unfold ordF at h'
  rw [h']
  cases h2 : decide (m.f3 = 0)
  all_goals
   with_reducible ((repeat apply xc_seq); apply xcR)
   refine xo_fa T_ rfl rfl rfl rfl rfl ?_
   refine xo_loadN T_ rfl rfl rfl (by repeat first | exact mH | apply mT | apply mA) rfl rfl ?_
   refine xo_callB (fs := []) (cs := []) rfl rfl rfl ordered_enters rfl (fun w1 hw1 => ordered_calls 0 600 m.f4 w1) ?_
   refine xo_as (i := 7) rfl (congrArg Value.bool h) ?_
   refine xoM ?_
   (first | refine xoN ?_ | refine xo_fa T_ rfl rfl rfl rfl rfl ?_)
   (first | refine xoN ?_ | refine xo_load0 T_ rfl rfl rfl (by repeat first | exact mH | apply mT | apply mA) rfl rfl ?_)
   (first | refine xoN ?_ | refine xo_eql rfl rfl rfl rfl ?_)
   refine xo_as (i := 11) rfl (congrArg Value.bool h2) ?_
   first | refine xo_pickT rfl rfl rfl rfl ?_ | refine xo_pickF rfl rfl rfl rfl ?_
   refine xoM ?_
   (first | refine xoN ?_ | refine xo_fa T_ rfl rfl rfl rfl rfl ?_)
   (first | refine xoN ?_ | refine xo_load0 T_ rfl rfl rfl (by repeat first | exact mH | apply mT | apply mA) rfl rfl ?_)
   (first | refine xoN ?_ | refine xo_eql rfl rfl rfl rfl ?_)
   first | refine xo_pickT rfl rfl rfl rfl ?_ | refine xo_pickF rfl rfl rfl rfl ?_
   refine xoA ?_
   with_reducible (apply xo_nil; (repeat first | apply xqT | apply xqB | apply xqS); (repeat apply xc_seq); apply xc_ret; (repeat (first | apply xq_thenR | apply xq_blockR | apply xq_scopeR)))
   exact (xq_ret1 rfl rfl fun w' hw => ⟨rfl, hw.kx.below⟩)
set_option maxHeartbeats 4000000 in
theorem lasting_calls (sv : Value) (m : MarT) (w : World) : Calls Tryd.prog 69 #[sv, .agg (marV m).toArray] w fun e w' => e = .returned (.bool (lastingF m)) ∧ Below w.heap.size w w' := by
 refine x_calls (X := XNone) Tryd.func69 rfl rfl rfl ?_
 with_reducible ((repeat apply xc_seq); apply xcR)
 refine xo_box rfl rfl rfl rfl (fun b2 => ?_)
 refine xo_box rfl rfl rfl rfl (fun b3 => ?_)
 refine xoA ?_
 with_reducible (apply xo_nil; (repeat first | apply xqT | apply xqB | apply xqS))
 unfold lastingF
 cases h : inF 0 600 m.f5
 ·with_reducible repeat apply xc_seq
  with_reducible apply xcR
  refine xo_fa T_ rfl rfl rfl rfl rfl ?_
  refine xo_load0 T_ rfl rfl rfl (by repeat first | exact mH | apply mT | apply mA) rfl rfl ?_
  refine xo_bs1 T_ rfl rfl rfl rfl rfl rfl rfl rfl (fun b7 => ?_)
  refine xo_callB (fs := []) (cs := []) rfl rfl rfl in_enters rfl (fun w1 hw1 => in_calls hw1 0 600 m.f5 (by repeat first | exact mH | apply mT | apply mA)) ?_
  refine xo_as (i := 8) rfl (congrArg Value.bool h) ?_
  refine xoM ?_
  (first | refine xoN ?_ | refine xo_fa T_ rfl rfl rfl rfl rfl ?_)
  (first | refine xoN ?_ | refine xo_load0 T_ rfl rfl rfl (by repeat first | exact mH | apply mT | apply mA) rfl rfl ?_)
  (first | refine xoN ?_ | refine xo_eql rfl rfl rfl rfl ?_)
  first | refine xo_pickT rfl rfl rfl rfl ?_ | refine xo_pickF rfl rfl rfl rfl ?_
  refine xoM ?_
  (first | refine xoN ?_ | refine xo_fa T_ rfl rfl rfl rfl rfl ?_)
  (first | refine xoN ?_ | refine xo_loadN T_ rfl rfl rfl (by repeat first | exact mH | apply mT | apply mA) rfl rfl ?_)
  (first | refine xoN ?_ | refine xo_build TB_ rfl rfl rfl rfl rfl ?_)
  (first | refine xoN ?_ | refine xo_eqlV rfl rfl rfl (spa_eq _ _ m.f4.f0 m.f4.f1 0 0) rfl ?_)
  first | refine xo_pickT rfl rfl rfl rfl ?_ | refine xo_pickF rfl rfl rfl rfl ?_
  refine xoA ?_
  with_reducible (apply xo_nil; (repeat first | apply xqT | apply xqB | apply xqS); (repeat apply xc_seq); apply xc_ret; (repeat (first | apply xq_thenR | apply xq_blockR | apply xq_scopeR)))
  exact (xq_ret1 rfl rfl fun w' hw => ⟨rfl, hw.kx.below⟩)
 ·cases h2 : decide (m.f3 = 0)
  all_goals
   with_reducible ((repeat apply xc_seq); apply xcR)
   refine xo_fa T_ rfl rfl rfl rfl rfl ?_
   refine xo_load0 T_ rfl rfl rfl (by repeat first | exact mH | apply mT | apply mA) rfl rfl ?_
   refine xo_bs1 T_ rfl rfl rfl rfl rfl rfl rfl rfl (fun b7 => ?_)
   refine xo_callB (fs := []) (cs := []) rfl rfl rfl in_enters rfl (fun w1 hw1 => in_calls hw1 0 600 m.f5 (by repeat first | exact mH | apply mT | apply mA)) ?_
   refine xo_as (i := 8) rfl (congrArg Value.bool h) ?_
   refine xoM ?_
   (first | refine xoN ?_ | refine xo_fa T_ rfl rfl rfl rfl rfl ?_)
   (first | refine xoN ?_ | refine xo_load0 T_ rfl rfl rfl (by repeat first | exact mH | apply mT | apply mA) rfl rfl ?_)
   (first | refine xoN ?_ | refine xo_eql rfl rfl rfl rfl ?_)
   refine xo_as (i := 12) rfl (congrArg Value.bool h2) ?_
   first | refine xo_pickT rfl rfl rfl rfl ?_ | refine xo_pickF rfl rfl rfl rfl ?_
   refine xoM ?_
   (first | refine xoN ?_ | refine xo_fa T_ rfl rfl rfl rfl rfl ?_)
   (first | refine xoN ?_ | refine xo_loadN T_ rfl rfl rfl (by repeat first | exact mH | apply mT | apply mA) rfl rfl ?_)
   (first | refine xoN ?_ | refine xo_build TB_ rfl rfl rfl rfl rfl ?_)
   (first | refine xoN ?_ | refine xo_eqlV rfl rfl rfl (spa_eq _ _ m.f4.f0 m.f4.f1 0 0) rfl ?_)
   first | refine xo_pickT rfl rfl rfl rfl ?_ | refine xo_pickF rfl rfl rfl rfl ?_
   refine xoA ?_
   with_reducible (apply xo_nil; (repeat first | apply xqT | apply xqB | apply xqS); (repeat apply xc_seq); apply xc_ret; (repeat (first | apply xq_thenR | apply xq_blockR | apply xq_scopeR)))
   exact (xq_ret1 rfl rfl fun w' hw => ⟨rfl, hw.kx.below⟩)
set_option maxHeartbeats 4000000 in
theorem before7_calls (R E : Int) (A B : Option Addr) (n c n2 c2 : Nat) (m : MarT) (w : World) (hR : 1 ≤ R ∧ R ≤ 6) : Calls Tryd.prog 72 #[.agg (scnV R A n c E B n2 c2).toArray, .agg (marV m).toArray] w fun e w' => e = .returned (.bool (beforeF R m)) ∧ Below w.heap.size w w' := by
 refine x_calls (X := XNone) Tryd.func72 rfl rfl rfl ?_
 with_reducible ((repeat apply xc_seq); apply xcR)
 refine xo_box rfl rfl rfl rfl (fun b2 => ?_)
 refine xo_box rfl rfl rfl rfl (fun b3 => ?_)
 refine xoA ?_
 with_reducible (apply xo_nil; (repeat first | apply xqT | apply xqB | apply xqS))
 unfold beforeF
 cases h : inF 0 (R - 1) m.f3
 ·with_reducible repeat apply xc_seq
  with_reducible apply xcR
  refine xo_fa T_ rfl rfl rfl rfl rfl ?_
  refine xo_load0 T_ rfl rfl rfl (by repeat first | exact mH | apply mT | apply mA) rfl rfl ?_
  refine xo_sub rfl rfl rfl (by omega) rfl ?_
  refine xo_fa T_ rfl rfl rfl rfl rfl ?_
  refine xo_load0 T_ rfl rfl rfl (by repeat first | exact mH | apply mT | apply mA) rfl rfl ?_
  refine xo_bs1 T_ rfl rfl rfl rfl rfl rfl rfl rfl (fun b10 => ?_)
  refine xo_callB (fs := []) (cs := []) rfl rfl rfl in_enters rfl (fun w1 hw1 => in_calls hw1 0 (R - 1) m.f3 (by repeat first | exact mH | apply mT | apply mA)) ?_
  refine xo_as (i := 11) rfl (congrArg Value.bool h) ?_
  refine xoM ?_
  (first | refine xoN ?_ | refine xo_fa T_ rfl rfl rfl rfl rfl ?_)
  (first | refine xoN ?_ | refine xo_load0 T_ rfl rfl rfl (by repeat first | exact mH | apply mT | apply mA) rfl rfl ?_)
  (first | refine xoN ?_ | refine xo_fa T_ rfl rfl rfl rfl rfl ?_)
  (first | refine xoN ?_ | refine xo_load0 T_ rfl rfl rfl (by repeat first | exact mH | apply mT | apply mA) rfl rfl ?_)
  (first | refine xoN ?_ | refine xo_neq rfl rfl rfl rfl ?_)
  first | refine xo_pickT rfl rfl rfl rfl ?_ | refine xo_pickF rfl rfl rfl rfl ?_
  refine xoM ?_
  (first | refine xoN ?_ | refine xo_fa T_ rfl rfl rfl rfl rfl ?_)
  (first | refine xoN ?_ | refine xo_load0 T_ rfl rfl rfl (by repeat first | exact mH | apply mT | apply mA) rfl rfl ?_)
  (first | refine xoN ?_ | refine xo_eql rfl rfl rfl rfl ?_)
  first | refine xo_pickT rfl rfl rfl rfl ?_ | refine xo_pickF rfl rfl rfl rfl ?_
  refine xoM ?_
  (first | refine xoN ?_ | refine xo_fa T_ rfl rfl rfl rfl rfl ?_)
  (first | refine xoN ?_ | refine xo_loadN T_ rfl rfl rfl (by repeat first | exact mH | apply mT | apply mA) rfl rfl ?_)
  (first | refine xoN ?_ | refine xo_build TB_ rfl rfl rfl rfl rfl ?_)
  (first | refine xoN ?_ | refine xo_eqlV rfl rfl rfl (spa_eq _ _ m.f4.f0 m.f4.f1 0 0) rfl ?_)
  first | refine xo_pickT rfl rfl rfl rfl ?_ | refine xo_pickF rfl rfl rfl rfl ?_
  refine xoA ?_
  with_reducible (apply xo_nil; (repeat first | apply xqT | apply xqB | apply xqS); (repeat apply xc_seq); apply xc_ret; (repeat (first | apply xq_thenR | apply xq_blockR | apply xq_scopeR)))
  exact (xq_ret1 rfl rfl fun w' hw => ⟨rfl, hw.kx.below⟩)
 ·cases h2 : (!decide (m.f3 = m.f2))
  ·with_reducible repeat apply xc_seq
   with_reducible apply xcR
   refine xo_fa T_ rfl rfl rfl rfl rfl ?_
   refine xo_load0 T_ rfl rfl rfl (by repeat first | exact mH | apply mT | apply mA) rfl rfl ?_
   refine xo_sub rfl rfl rfl (by omega) rfl ?_
   refine xo_fa T_ rfl rfl rfl rfl rfl ?_
   refine xo_load0 T_ rfl rfl rfl (by repeat first | exact mH | apply mT | apply mA) rfl rfl ?_
   refine xo_bs1 T_ rfl rfl rfl rfl rfl rfl rfl rfl (fun b10 => ?_)
   refine xo_callB (fs := []) (cs := []) rfl rfl rfl in_enters rfl (fun w1 hw1 => in_calls hw1 0 (R - 1) m.f3 (by repeat first | exact mH | apply mT | apply mA)) ?_
   refine xo_as (i := 11) rfl (congrArg Value.bool h) ?_
   refine xoM ?_
   (first | refine xoN ?_ | refine xo_fa T_ rfl rfl rfl rfl rfl ?_)
   (first | refine xoN ?_ | refine xo_load0 T_ rfl rfl rfl (by repeat first | exact mH | apply mT | apply mA) rfl rfl ?_)
   (first | refine xoN ?_ | refine xo_fa T_ rfl rfl rfl rfl rfl ?_)
   (first | refine xoN ?_ | refine xo_load0 T_ rfl rfl rfl (by repeat first | exact mH | apply mT | apply mA) rfl rfl ?_)
   (first | refine xoN ?_ | refine xo_neq rfl rfl rfl rfl ?_)
   refine xo_as (i := 17) rfl (congrArg Value.bool h2) ?_
   first | refine xo_pickT rfl rfl rfl rfl ?_ | refine xo_pickF rfl rfl rfl rfl ?_
   refine xoM ?_
   (first | refine xoN ?_ | refine xo_fa T_ rfl rfl rfl rfl rfl ?_)
   (first | refine xoN ?_ | refine xo_load0 T_ rfl rfl rfl (by repeat first | exact mH | apply mT | apply mA) rfl rfl ?_)
   (first | refine xoN ?_ | refine xo_eql rfl rfl rfl rfl ?_)
   first | refine xo_pickT rfl rfl rfl rfl ?_ | refine xo_pickF rfl rfl rfl rfl ?_
   refine xoM ?_
   (first | refine xoN ?_ | refine xo_fa T_ rfl rfl rfl rfl rfl ?_)
   (first | refine xoN ?_ | refine xo_loadN T_ rfl rfl rfl (by repeat first | exact mH | apply mT | apply mA) rfl rfl ?_)
   (first | refine xoN ?_ | refine xo_build TB_ rfl rfl rfl rfl rfl ?_)
   (first | refine xoN ?_ | refine xo_eqlV rfl rfl rfl (spa_eq _ _ m.f4.f0 m.f4.f1 0 0) rfl ?_)
   first | refine xo_pickT rfl rfl rfl rfl ?_ | refine xo_pickF rfl rfl rfl rfl ?_
   refine xoA ?_
   with_reducible (apply xo_nil; (repeat first | apply xqT | apply xqB | apply xqS); (repeat apply xc_seq); apply xc_ret; (repeat (first | apply xq_thenR | apply xq_blockR | apply xq_scopeR)))
   exact (xq_ret1 rfl rfl fun w' hw => ⟨rfl, hw.kx.below⟩)
  ·cases h3 : decide (m.f5 = 0)
   all_goals
    with_reducible ((repeat apply xc_seq); apply xcR)
    refine xo_fa T_ rfl rfl rfl rfl rfl ?_
    refine xo_load0 T_ rfl rfl rfl (by repeat first | exact mH | apply mT | apply mA) rfl rfl ?_
    refine xo_sub rfl rfl rfl (by omega) rfl ?_
    refine xo_fa T_ rfl rfl rfl rfl rfl ?_
    refine xo_load0 T_ rfl rfl rfl (by repeat first | exact mH | apply mT | apply mA) rfl rfl ?_
    refine xo_bs1 T_ rfl rfl rfl rfl rfl rfl rfl rfl (fun b10 => ?_)
    refine xo_callB (fs := []) (cs := []) rfl rfl rfl in_enters rfl (fun w1 hw1 => in_calls hw1 0 (R - 1) m.f3 (by repeat first | exact mH | apply mT | apply mA)) ?_
    refine xo_as (i := 11) rfl (congrArg Value.bool h) ?_
    refine xoM ?_
    (first | refine xoN ?_ | refine xo_fa T_ rfl rfl rfl rfl rfl ?_)
    (first | refine xoN ?_ | refine xo_load0 T_ rfl rfl rfl (by repeat first | exact mH | apply mT | apply mA) rfl rfl ?_)
    (first | refine xoN ?_ | refine xo_fa T_ rfl rfl rfl rfl rfl ?_)
    (first | refine xoN ?_ | refine xo_load0 T_ rfl rfl rfl (by repeat first | exact mH | apply mT | apply mA) rfl rfl ?_)
    (first | refine xoN ?_ | refine xo_neq rfl rfl rfl rfl ?_)
    refine xo_as (i := 17) rfl (congrArg Value.bool h2) ?_
    first | refine xo_pickT rfl rfl rfl rfl ?_ | refine xo_pickF rfl rfl rfl rfl ?_
    refine xoM ?_
    (first | refine xoN ?_ | refine xo_fa T_ rfl rfl rfl rfl rfl ?_)
    (first | refine xoN ?_ | refine xo_load0 T_ rfl rfl rfl (by repeat first | exact mH | apply mT | apply mA) rfl rfl ?_)
    (first | refine xoN ?_ | refine xo_eql rfl rfl rfl rfl ?_)
    refine xo_as (i := 22) rfl (congrArg Value.bool h3) ?_
    first | refine xo_pickT rfl rfl rfl rfl ?_ | refine xo_pickF rfl rfl rfl rfl ?_
    refine xoM ?_
    (first | refine xoN ?_ | refine xo_fa T_ rfl rfl rfl rfl rfl ?_)
    (first | refine xoN ?_ | refine xo_loadN T_ rfl rfl rfl (by repeat first | exact mH | apply mT | apply mA) rfl rfl ?_)
    (first | refine xoN ?_ | refine xo_build TB_ rfl rfl rfl rfl rfl ?_)
    (first | refine xoN ?_ | refine xo_eqlV rfl rfl rfl (spa_eq _ _ m.f4.f0 m.f4.f1 0 0) rfl ?_)
    first | refine xo_pickT rfl rfl rfl rfl ?_ | refine xo_pickF rfl rfl rfl rfl ?_
    refine xoA ?_
    with_reducible (apply xo_nil; (repeat first | apply xqT | apply xqB | apply xqS); (repeat apply xc_seq); apply xc_ret; (repeat (first | apply xq_thenR | apply xq_blockR | apply xq_scopeR)))
    exact (xq_ret1 rfl rfl fun w' hw => ⟨rfl, hw.kx.below⟩)
theorem right_calls (R E : Int) (A B : Option Addr) (n c n2 c2 : Nat) (m : MarT) (w : World) (hR : 1 ≤ R ∧ R ≤ 6) (hk : 1 ≤ m.f1 ∧ m.f1 ≤ 6) : Calls Tryd.prog (rightK m.f1) #[.agg (scnV R A n c E B n2 c2).toArray, .agg (marV m).toArray] w fun e w' => e = .returned (.bool (kindF R m)) ∧ Below w.heap.size w w' := by
 unfold rightK kindF
 rw [if_neg (by omega)]
 by_cases h1 : m.f1 ≤ 3
 ·rw [if_pos h1, if_pos h1]; exact timed_calls _ m w
 rw [if_neg h1, if_neg h1]
 by_cases h2 : m.f1 ≤ 5
 ·rw [if_pos h2, if_pos h2]; exact lasting_calls _ m w
 ·rw [if_neg h2, if_neg h2]; exact before7_calls R E A B n c n2 c2 m w hR
theorem timed_enters : ∀ args w, (callFunc 63 args).run Tryd.prog w = .ok (.enter 63 args) w := enters_of Tryd.func63 (by kernel_rfl) rfl
theorem lasting_enters : ∀ args w, (callFunc 69 args).run Tryd.prog w = .ok (.enter 69 args) w := enters_of Tryd.func69 (by kernel_rfl) rfl
theorem kinds2_enters : ∀ args w, (callFunc 64 args).run Tryd.prog w = .ok (.enter 64 args) w := enters_of Tryd.func64 (by kernel_rfl) rfl
theorem kinds3_enters : ∀ args w, (callFunc 67 args).run Tryd.prog w = .ok (.enter 67 args) w := enters_of Tryd.func67 (by kernel_rfl) rfl
theorem kinds4_enters : ∀ args w, (callFunc 68 args).run Tryd.prog w = .ok (.enter 68 args) w := enters_of Tryd.func68 (by kernel_rfl) rfl
theorem kinds5_enters : ∀ args w, (callFunc 70 args).run Tryd.prog w = .ok (.enter 70 args) w := enters_of Tryd.func70 (by kernel_rfl) rfl
theorem kinds6_enters : ∀ args w, (callFunc 71 args).run Tryd.prog w = .ok (.enter 71 args) w := enters_of Tryd.func71 (by kernel_rfl) rfl
theorem kinds7_enters : ∀ args w, (callFunc 72 args).run Tryd.prog w = .ok (.enter 72 args) w := enters_of Tryd.func72 (by kernel_rfl) rfl
theorem kinds8_enters : ∀ args w, (callFunc 73 args).run Tryd.prog w = .ok (.enter 73 args) w := enters_of Tryd.func73 (by kernel_rfl) rfl
theorem right_enters {k : Int} (h : 1 ≤ k ∧ k ≤ 6) : ∀ args w, (callFunc (rightK k) args).run Tryd.prog w = .ok (.enter (rightK k) args) w := six (φ := fun k => ∀ args w, (callFunc (rightK k) args).run Tryd.prog w = .ok (.enter (rightK k) args) w) h timed_enters timed_enters timed_enters lasting_enters lasting_enters kinds7_enters
theorem says_enters {k : Int} (h : 1 ≤ k ∧ k ≤ 6) : ∀ args w, (callFunc (saysK k) args).run Tryd.prog w = .ok (.enter (saysK k) args) w := six (φ := fun k => ∀ args w, (callFunc (saysK k) args).run Tryd.prog w = .ok (.enter (saysK k) args) w) h kinds2_enters kinds3_enters kinds4_enters kinds5_enters kinds6_enters kinds8_enters
structure MarkOK (m : MarT) : Prop where
 kind : 1 ≤ m.f1 ∧ m.f1 ≤ 6
 room : 0 ≤ m.f2 ∧ m.f2 ≤ 5
 other : 0 ≤ m.f3 ∧ m.f3 ≤ 5
 lo : 0 ≤ m.f4.f0 ∧ m.f4.f0 ≤ 600
 hi : 0 ≤ m.f4.f1 ∧ m.f4.f1 ≤ 600
 long : 0 ≤ m.f5 ∧ m.f5 ≤ 600
def saysF (E : Int) (r : Nat → Int) (m : MarT) : SpaT :=
 if m.f1 ≤ 1 then comF (afterF (m.f4.f0 - 1) (r m.f2.toNat)) (untilF m.f4.f1 (r m.f2.toNat))
 else if m.f1 ≤ 2 then afterF m.f4.f0 (r m.f2.toNat)
 else if m.f1 ≤ 3 then untilF m.f4.f1 (r m.f2.toNat)
 else if m.f1 ≤ 4 then untilF (E - m.f5) (r m.f2.toNat)
 else if m.f1 ≤ 5 then afterF (E - m.f5) (r m.f2.toNat)
 else if r m.f2.toNat < r m.f3.toNat then ⟨-1073741824, 1073741824⟩ else nowhereF
def SureR (r : Nat → Int) : Prop := ∀ i, i < 6 → Sure (r i)
set_option maxHeartbeats 8000000 in
theorem says2_calls (R E : Int) (A B : Option Addr) (n c n2 c2 : Nat) (r : Nat → Int) (m : MarT) (w : World) (hm : MarkOK m) (hE : 0 ≤ E ∧ E ≤ 600) (hr : SureR r) (hglob : GlobO w) :
  Calls Tryd.prog 64 #[.agg (scnV R A n c E B n2 c2).toArray, .agg (marV m).toArray, .agg (rowV r).toArray] w fun e w' => e = .returned (.agg (spaV (comF (afterF (m.f4.f0 - 1) (r m.f2.toNat)) (untilF m.f4.f1 (r m.f2.toNat)))).toArray) ∧ Below w.heap.size w w' := by
 obtain ⟨⟨k1, k2⟩, ⟨q1, q2⟩, ⟨q3, q4⟩, ⟨q5, q6⟩, ⟨q7, q8⟩, ⟨q9, q10⟩⟩ := hm
 have hs := hr m.f2.toNat (by omega)
 refine x_calls (X := XNone) Tryd.func64 rfl rfl rfl ?_
 with_reducible ((repeat apply xc_seq); apply xcR)
 refine xo_box rfl rfl rfl rfl (fun b3 => ?_)
 refine xo_box rfl rfl rfl rfl (fun b4 => ?_)
 refine xo_box rfl rfl rfl rfl (fun b5 => ?_)
 refine xo_alloc T_ rfl rfl rfl rfl (fun b6 => ?_)
 with_reducible (apply xo_nil; (repeat first | apply xqT | apply xqB | apply xqS); (repeat apply xc_seq))
 apply xc_drawE (fun g => [(17, .slice (some ⟨(g.getD 0 gv0).b, 0, none⟩) 1 1)]) (fun (η0 : Hp) g => match g with | [] => (η0) | a0 :: [] => ((a0.b, true, cel (spaV (untilF m.f4.f1 (r m.f2.toNat))) 55) :: η0) | a0 :: a1 :: _ => ((a0.b, true, cel (spaV (untilF m.f4.f1 (r m.f2.toNat))) 55) :: (b6, true, cel (spaV (comF (afterF (m.f4.f0 - 1) (r m.f2.toNat)) (untilF m.f4.f1 (r m.f2.toNat)))) 55) :: (b5, true, cel (rowV r) 101) :: (b4, true, cel (marV m) 60) :: (b3, true, cel (scnV R A n c E B n2 c2) 25) :: [])) (fun _ => True) [0, 0, 0, 0, 0, 0, 0, 0, 0, 0, 0, 0, 0, 0, 0, 0, 0, 1, 1, 2] [17, 19] [[16], [18, 18, 0, 1, 2, 3, 4, 5, 6, 7, 8, 9, 10, 11, 12, 13, 14, 15, 16, 17, 18]] (by trivial)
 apply SameLen.cons
 apply SameLen.cons
 apply SameLen.cons
 apply SameLen.cons
 apply SameLen.cons
 apply SameLen.cons
 apply SameLen.cons
 apply SameLen.cons
 apply SameLen.cons
 apply SameLen.cons
 apply SameLen.cons
 apply SameLen.cons
 apply SameLen.cons
 apply SameLen.cons
 apply SameLen.cons
 apply SameLen.cons
 apply SameLen.cons
 apply SameLen.cons (c := undef)
 apply SameLen.cons
 apply SameLen.cons
 exact SameLen.nil
 rotate_left 19
 case hH0 => rfl
 case hmix => exact T_.mixed
 case hbind => rfl
 case hdeps => rfl
 case hdist => rfl
 case hfresh => rfl
 case hE => rfl
 case hEn => decide
 ·refine DrawE.pure 0 1 rfl (.inr (by decide)) (fun L g hg hd => Nat.zero_le _) (fun g hlo hhi hF τ => ?_) ?_
  ·rcases g with _ | ⟨a0, _ | ⟨a1, _ | ⟨a2, g⟩⟩⟩ <;> first | (simp only [lenC, lenN] at hlo hhi; omega) | (refine ⟨_, rfl, ?_⟩; refine xo_fa T_ rfl rfl rfl rfl rfl ?_; exact xoF)
  refine DrawE.pure 0 1 rfl (.inr (by decide)) (fun L g hg hd => Nat.zero_le _) (fun g hlo hhi hF τ => ?_) ?_
  ·rcases g with _ | ⟨a0, _ | ⟨a1, _ | ⟨a2, g⟩⟩⟩ <;> first | (simp only [lenC, lenN] at hlo hhi; omega) | (refine ⟨_, rfl, ?_⟩; refine xo_fa T_ rfl rfl rfl rfl rfl ?_; exact xoF)
  refine DrawE.pure 0 1 rfl (.inr (by decide)) (fun L g hg hd => Nat.zero_le _) (fun g hlo hhi hF τ => ?_) ?_
  ·rcases g with _ | ⟨a0, _ | ⟨a1, _ | ⟨a2, g⟩⟩⟩ <;> first | (simp only [lenC, lenN] at hlo hhi; omega) | (refine ⟨_, rfl, ?_⟩; refine xo_load0 T_ rfl rfl rfl (by repeat first | exact mH | apply mT | apply mA) rfl rfl ?_; exact xoF)
  refine DrawE.pure 0 1 rfl (.inr (by decide)) (fun L g hg hd => Nat.zero_le _) (fun g hlo hhi hF τ => ?_) ?_
  ·rcases g with _ | ⟨a0, _ | ⟨a1, _ | ⟨a2, g⟩⟩⟩ <;> first | (simp only [lenC, lenN] at hlo hhi; omega) | (refine ⟨_, rfl, ?_⟩; refine xo_sub rfl rfl rfl (by omega) rfl ?_; exact xoF)
  refine DrawE.pure 0 1 rfl (.inr (by decide)) (fun L g hg hd => Nat.zero_le _) (fun g hlo hhi hF τ => ?_) ?_
  ·rcases g with _ | ⟨a0, _ | ⟨a1, _ | ⟨a2, g⟩⟩⟩ <;> first | (simp only [lenC, lenN] at hlo hhi; omega) | (refine ⟨_, rfl, ?_⟩; refine xo_fa T_ rfl rfl rfl rfl rfl ?_; exact xoF)
  refine DrawE.pure 0 1 rfl (.inr (by decide)) (fun L g hg hd => Nat.zero_le _) (fun g hlo hhi hF τ => ?_) ?_
  ·rcases g with _ | ⟨a0, _ | ⟨a1, _ | ⟨a2, g⟩⟩⟩ <;> first | (simp only [lenC, lenN] at hlo hhi; omega) | (refine ⟨_, rfl, ?_⟩; refine xo_load0 T_ rfl rfl rfl (by repeat first | exact mH | apply mT | apply mA) rfl rfl ?_; exact xoF)
  refine DrawE.pure 0 1 rfl (.inr (by decide)) (fun L g hg hd => Nat.zero_le _) (fun g hlo hhi hF τ => ?_) ?_
  ·rcases g with _ | ⟨a0, _ | ⟨a1, _ | ⟨a2, g⟩⟩⟩ <;> first | (simp only [lenC, lenN] at hlo hhi; omega) | (refine ⟨_, rfl, ?_⟩; refine xo_iaL T_ rfl Tryd.underlying101 rfl rfl rfl ⟨by omega, by omega⟩ rfl ?_; exact xoF)
  refine DrawE.pure 0 1 rfl (.inr (by decide)) (fun L g hg hd => Nat.zero_le _) (fun g hlo hhi hF τ => ?_) ?_
  ·rcases g with _ | ⟨a0, _ | ⟨a1, _ | ⟨a2, g⟩⟩⟩ <;> first | (simp only [lenC, lenN] at hlo hhi; omega) | (refine ⟨_, rfl, ?_⟩; refine xo_load0 T_ rfl rfl rfl (by repeat first | exact mH | apply mT | apply mA) (rowV_at r ⟨by omega, by omega⟩) rfl ?_; exact xoF)
  refine DrawE.pure 0 1 rfl (.inr (by decide)) (fun L g hg hd => Nat.zero_le _) (fun g hlo hhi hF τ => ?_) ?_
  ·rcases g with _ | ⟨a0, _ | ⟨a1, _ | ⟨a2, g⟩⟩⟩ <;> first | (simp only [lenC, lenN] at hlo hhi; omega) | (refine ⟨_, rfl, ?_⟩; refine xo_callB (fs := []) (cs := []) rfl rfl rfl after_enters rfl (fun w1 hw1 => after_calls (m.f4.f0 - 1) (r m.f2.toNat) w1 ⟨by omega, by omega⟩ hs) ?_; exact xoF)
  refine DrawE.pure 0 1 rfl (.inr (by decide)) (fun L g hg hd => Nat.zero_le _) (fun g hlo hhi hF τ => ?_) ?_
  ·rcases g with _ | ⟨a0, _ | ⟨a1, _ | ⟨a2, g⟩⟩⟩ <;> first | (simp only [lenC, lenN] at hlo hhi; omega) | (refine ⟨_, rfl, ?_⟩; refine xo_fa T_ rfl rfl rfl rfl rfl ?_; exact xoF)
  refine DrawE.pure 0 1 rfl (.inr (by decide)) (fun L g hg hd => Nat.zero_le _) (fun g hlo hhi hF τ => ?_) ?_
  ·rcases g with _ | ⟨a0, _ | ⟨a1, _ | ⟨a2, g⟩⟩⟩ <;> first | (simp only [lenC, lenN] at hlo hhi; omega) | (refine ⟨_, rfl, ?_⟩; refine xo_fa T_ rfl rfl rfl rfl rfl ?_; exact xoF)
  refine DrawE.pure 0 1 rfl (.inr (by decide)) (fun L g hg hd => Nat.zero_le _) (fun g hlo hhi hF τ => ?_) ?_
  ·rcases g with _ | ⟨a0, _ | ⟨a1, _ | ⟨a2, g⟩⟩⟩ <;> first | (simp only [lenC, lenN] at hlo hhi; omega) | (refine ⟨_, rfl, ?_⟩; refine xo_load0 T_ rfl rfl rfl (by repeat first | exact mH | apply mT | apply mA) rfl rfl ?_; exact xoF)
  refine DrawE.pure 0 1 rfl (.inr (by decide)) (fun L g hg hd => Nat.zero_le _) (fun g hlo hhi hF τ => ?_) ?_
  ·rcases g with _ | ⟨a0, _ | ⟨a1, _ | ⟨a2, g⟩⟩⟩ <;> first | (simp only [lenC, lenN] at hlo hhi; omega) | (refine ⟨_, rfl, ?_⟩; refine xo_fa T_ rfl rfl rfl rfl rfl ?_; exact xoF)
  refine DrawE.pure 0 1 rfl (.inr (by decide)) (fun L g hg hd => Nat.zero_le _) (fun g hlo hhi hF τ => ?_) ?_
  ·rcases g with _ | ⟨a0, _ | ⟨a1, _ | ⟨a2, g⟩⟩⟩ <;> first | (simp only [lenC, lenN] at hlo hhi; omega) | (refine ⟨_, rfl, ?_⟩; refine xo_load0 T_ rfl rfl rfl (by repeat first | exact mH | apply mT | apply mA) rfl rfl ?_; exact xoF)
  refine DrawE.pure 0 1 rfl (.inr (by decide)) (fun L g hg hd => Nat.zero_le _) (fun g hlo hhi hF τ => ?_) ?_
  ·rcases g with _ | ⟨a0, _ | ⟨a1, _ | ⟨a2, g⟩⟩⟩ <;> first | (simp only [lenC, lenN] at hlo hhi; omega) | (refine ⟨_, rfl, ?_⟩; refine xo_iaL T_ rfl Tryd.underlying101 rfl rfl rfl ⟨by omega, by omega⟩ rfl ?_; exact xoF)
  refine DrawE.pure 0 1 rfl (.inr (by decide)) (fun L g hg hd => Nat.zero_le _) (fun g hlo hhi hF τ => ?_) ?_
  ·rcases g with _ | ⟨a0, _ | ⟨a1, _ | ⟨a2, g⟩⟩⟩ <;> first | (simp only [lenC, lenN] at hlo hhi; omega) | (refine ⟨_, rfl, ?_⟩; refine xo_load0 T_ rfl rfl rfl (by repeat first | exact mH | apply mT | apply mA) (rowV_at r ⟨by omega, by omega⟩) rfl ?_; exact xoF)
  refine DrawE.pure 0 0 rfl (.inr (by decide)) (fun L g hg hd => Nat.zero_le _) (fun g hlo hhi hF τ => ?_) ?_
  ·rcases g with _ | ⟨a0, _ | ⟨a1, _ | ⟨a2, g⟩⟩⟩ <;> first | (simp only [lenC, lenN] at hlo hhi; omega) | (refine ⟨_, rfl, ?_⟩; refine xo_callB (fs := []) (cs := []) rfl rfl rfl until_enters rfl (fun w1 hw1 => until_calls m.f4.f1 (r m.f2.toNat) w1 ⟨by omega, by omega⟩ hs (hglob.below hw1.kx.below)) ?_; exact xoF)
  refine DrawE.eff 0 rfl (by decide) rfl (fun j hj => hj) (fun j g a hj => ?_) (fun L g hg hd => Nat.zero_le _) (fun g hgl hF τ => ?_) ?_
  ·rcases j with _ | _ | _ | _ | _ | _ | _ | _ | _ | _ | _ | _ | _ | _ | _ | _ | _ | _ | _ | _ | j
   all_goals first | rfl | (rcases g with _ | ⟨a0, _ | ⟨a1, _ | ⟨a2, g⟩⟩⟩ <;> first | rfl | exact absurd hj (by decide) | exact absurd hj (by simp [List.getD]))
  ·obtain rfl : g = [] := by
    rcases g with _ | ⟨a0, g⟩ <;> first | rfl | (exfalso; simp only [List.length_cons, List.length_nil] at hgl; omega)
   refine xo_bsG T_ 2 rfl rfl rfl rfl rfl rfl rfl rfl rfl rfl (fun b24 => ?_)
   exact xo_finE ⟨b24, 0, none⟩ rfl trivial
  refine DrawE.pure 1 1 rfl (.inr (by decide)) (fun L g hg hd => hg.2.1 17 (hd 17 (by decide))) (fun g hlo hhi hF τ => ?_) ?_
  ·rcases g with _ | ⟨a0, _ | ⟨a1, _ | ⟨a2, g⟩⟩⟩ <;> first | (simp only [lenC, lenN] at hlo hhi; omega) | (refine ⟨_, rfl, ?_⟩; refine xo_callB (fs := []) (cs := []) rfl rfl rfl common_enters rfl (fun w1 hw1 => common1_calls (afterF (m.f4.f0 - 1) (r m.f2.toNat)) (untilF m.f4.f1 (r m.f2.toNat)) a0.b w1 (hw1.ro (by repeat first | exact mH | apply mT | apply mA))) ?_; exact xoF)
  refine DrawE.eff 1 rfl (by decide) rfl (fun j hj => hj) (fun j g a hj => ?_) (fun L g hg hd => hg.2.1 18 (hd 18 (by decide))) (fun g hgl hF τ => ?_) ?_
  ·rcases j with _ | _ | _ | _ | _ | _ | _ | _ | _ | _ | _ | _ | _ | _ | _ | _ | _ | _ | _ | _ | j
   all_goals first | rfl | (rcases g with _ | ⟨a0, _ | ⟨a1, _ | ⟨a2, g⟩⟩⟩ <;> first | rfl | exact absurd hj (by decide) | exact absurd hj (by simp [List.getD]))
  ·obtain ⟨a0, rfl⟩ : ∃ a0, g = [a0] := by
    rcases g with _ | ⟨a0, _ | ⟨a1, _ | ⟨a2, g⟩⟩⟩ <;> first | exact ⟨_, rfl⟩ | rfl | (exfalso; simp only [List.length_cons, List.length_nil] at hgl; omega)
   refine xo_store T_ rfl rfl rfl rfl (by repeat first | exact mH | apply mT | apply mA) rfl rfl rfl rfl (by repeat first | exact Upd.head | apply Upd.tail | apply Upd.app) rfl ?_
   exact xo_finE ⟨0, 0, none⟩ rfl trivial
  exact DrawE.nil
 intro g hgl hF
 obtain ⟨a0, a1, rfl⟩ : ∃ a0 a1, g = [a0, a1] := by
  rcases g with _ | ⟨a0, _ | ⟨a1, _ | ⟨a2, g⟩⟩⟩ <;> first | exact ⟨_, _, rfl⟩ | (exfalso; simp only [List.length_cons, List.length_nil] at hgl; omega)
 with_reducible ((repeat first | apply xqT | apply xqB | apply xqS); (repeat apply xc_seq); apply xc_ret; (repeat (first | apply xq_thenR | apply xq_blockR | apply xq_scopeR)))
 exact xq_retC T_ rfl rfl rfl (by repeat first | exact mH | apply mT | apply mA) rfl fun w' hw => ⟨rfl, hw.kx.below⟩
set_option maxHeartbeats 8000000 in
theorem says3_calls (R E : Int) (A B : Option Addr) (n c n2 c2 : Nat) (r : Nat → Int) (m : MarT) (w : World) (hm : MarkOK m) (hE : 0 ≤ E ∧ E ≤ 600) (hr : SureR r) (hglob : GlobO w) :
  Calls Tryd.prog 67 #[.agg (scnV R A n c E B n2 c2).toArray, .agg (marV m).toArray, .agg (rowV r).toArray] w fun e w' => e = .returned (.agg (spaV (afterF m.f4.f0 (r m.f2.toNat))).toArray) ∧ Below w.heap.size w w' := by
 obtain ⟨⟨k1, k2⟩, ⟨q1, q2⟩, ⟨q3, q4⟩, ⟨q5, q6⟩, ⟨q7, q8⟩, ⟨q9, q10⟩⟩ := hm
 have hs := hr m.f2.toNat (by omega)
 refine x_calls (X := XNone) Tryd.func67 rfl rfl rfl ?_
 with_reducible ((repeat apply xc_seq); apply xcR)
 refine xo_box rfl rfl rfl rfl (fun b3 => ?_)
 refine xo_box rfl rfl rfl rfl (fun b4 => ?_)
 refine xo_box rfl rfl rfl rfl (fun b5 => ?_)
 refine xo_alloc T_ rfl rfl rfl rfl (fun b6 => ?_)
 with_reducible (apply xo_nil; (repeat first | apply xqT | apply xqB | apply xqS); (repeat apply xc_seq))
 apply xc_drawE (fun g => []) (fun (η0 : Hp) g => match g with | [] => (η0) | a0 :: _ => ((b6, true, cel (spaV (afterF m.f4.f0 (r m.f2.toNat))) 55) :: (b5, true, cel (rowV r) 101) :: (b4, true, cel (marV m) 60) :: (b3, true, cel (scnV R A n c E B n2 c2) 25) :: [])) (fun _ => True) [0, 0, 0, 0, 0, 0, 0, 0, 1] [8] [[7, 7, 0, 1, 2, 3, 4, 5, 6, 7]] (by trivial)
 apply SameLen.cons
 apply SameLen.cons
 apply SameLen.cons
 apply SameLen.cons
 apply SameLen.cons
 apply SameLen.cons
 apply SameLen.cons
 apply SameLen.cons
 apply SameLen.cons
 exact SameLen.nil
 rotate_left 9
 case hH0 => rfl
 case hmix => exact T_.mixed
 case hbind => rfl
 case hdeps => rfl
 case hdist => rfl
 case hfresh => rfl
 case hE => rfl
 case hEn => decide
 ·refine DrawE.pure 0 0 rfl (.inr (by decide)) (fun L g hg hd => Nat.zero_le _) (fun g hlo hhi hF τ => ?_) ?_
  ·rcases g with _ | ⟨a0, _ | ⟨a1, g⟩⟩ <;> first | (simp only [lenC, lenN] at hlo hhi; omega) | (refine ⟨_, rfl, ?_⟩; refine xo_fa T_ rfl rfl rfl rfl rfl ?_; exact xoF)
  refine DrawE.pure 0 0 rfl (.inr (by decide)) (fun L g hg hd => Nat.zero_le _) (fun g hlo hhi hF τ => ?_) ?_
  ·rcases g with _ | ⟨a0, _ | ⟨a1, g⟩⟩ <;> first | (simp only [lenC, lenN] at hlo hhi; omega) | (refine ⟨_, rfl, ?_⟩; refine xo_fa T_ rfl rfl rfl rfl rfl ?_; exact xoF)
  refine DrawE.pure 0 0 rfl (.inr (by decide)) (fun L g hg hd => Nat.zero_le _) (fun g hlo hhi hF τ => ?_) ?_
  ·rcases g with _ | ⟨a0, _ | ⟨a1, g⟩⟩ <;> first | (simp only [lenC, lenN] at hlo hhi; omega) | (refine ⟨_, rfl, ?_⟩; refine xo_load0 T_ rfl rfl rfl (by repeat first | exact mH | apply mT | apply mA) rfl rfl ?_; exact xoF)
  refine DrawE.pure 0 0 rfl (.inr (by decide)) (fun L g hg hd => Nat.zero_le _) (fun g hlo hhi hF τ => ?_) ?_
  ·rcases g with _ | ⟨a0, _ | ⟨a1, g⟩⟩ <;> first | (simp only [lenC, lenN] at hlo hhi; omega) | (refine ⟨_, rfl, ?_⟩; refine xo_fa T_ rfl rfl rfl rfl rfl ?_; exact xoF)
  refine DrawE.pure 0 0 rfl (.inr (by decide)) (fun L g hg hd => Nat.zero_le _) (fun g hlo hhi hF τ => ?_) ?_
  ·rcases g with _ | ⟨a0, _ | ⟨a1, g⟩⟩ <;> first | (simp only [lenC, lenN] at hlo hhi; omega) | (refine ⟨_, rfl, ?_⟩; refine xo_load0 T_ rfl rfl rfl (by repeat first | exact mH | apply mT | apply mA) rfl rfl ?_; exact xoF)
  refine DrawE.pure 0 0 rfl (.inr (by decide)) (fun L g hg hd => Nat.zero_le _) (fun g hlo hhi hF τ => ?_) ?_
  ·rcases g with _ | ⟨a0, _ | ⟨a1, g⟩⟩ <;> first | (simp only [lenC, lenN] at hlo hhi; omega) | (refine ⟨_, rfl, ?_⟩; refine xo_iaL T_ rfl Tryd.underlying101 rfl rfl rfl ⟨by omega, by omega⟩ rfl ?_; exact xoF)
  refine DrawE.pure 0 0 rfl (.inr (by decide)) (fun L g hg hd => Nat.zero_le _) (fun g hlo hhi hF τ => ?_) ?_
  ·rcases g with _ | ⟨a0, _ | ⟨a1, g⟩⟩ <;> first | (simp only [lenC, lenN] at hlo hhi; omega) | (refine ⟨_, rfl, ?_⟩; refine xo_load0 T_ rfl rfl rfl (by repeat first | exact mH | apply mT | apply mA) (rowV_at r ⟨by omega, by omega⟩) rfl ?_; exact xoF)
  refine DrawE.pure 0 0 rfl (.inr (by decide)) (fun L g hg hd => Nat.zero_le _) (fun g hlo hhi hF τ => ?_) ?_
  ·rcases g with _ | ⟨a0, _ | ⟨a1, g⟩⟩ <;> first | (simp only [lenC, lenN] at hlo hhi; omega) | (refine ⟨_, rfl, ?_⟩; refine xo_callB (fs := []) (cs := []) rfl rfl rfl after_enters rfl (fun w1 hw1 => after_calls (m.f4.f0) (r m.f2.toNat) w1 ⟨by omega, by omega⟩ hs) ?_; exact xoF)
  refine DrawE.eff 0 rfl (by decide) rfl (fun j hj => hj) (fun j g a hj => ?_) (fun L g hg hd => Nat.zero_le _) (fun g hgl hF τ => ?_) ?_
  ·rcases j with _ | _ | _ | _ | _ | _ | _ | _ | _ | j
   all_goals first | rfl | (rcases g with _ | ⟨a0, _ | ⟨a1, g⟩⟩ <;> first | rfl | exact absurd hj (by decide) | exact absurd hj (by simp [List.getD]))
  ·obtain rfl : g = [] := by
    rcases g with _ | ⟨a0, g⟩ <;> first | rfl | (exfalso; simp only [List.length_cons, List.length_nil] at hgl; omega)
   refine xo_store T_ rfl rfl rfl rfl (by repeat first | exact mH | apply mT | apply mA) rfl rfl rfl rfl (by repeat first | exact Upd.head | apply Upd.tail | apply Upd.app) rfl ?_
   exact xo_finE ⟨0, 0, none⟩ rfl trivial
  exact DrawE.nil
 intro g hgl hF
 obtain ⟨a0, rfl⟩ : ∃ a0, g = [a0] := by
  rcases g with _ | ⟨a0, _ | ⟨a1, g⟩⟩ <;> first | exact ⟨_, rfl⟩ | (exfalso; simp only [List.length_cons, List.length_nil] at hgl; omega)
 with_reducible ((repeat first | apply xqT | apply xqB | apply xqS); (repeat apply xc_seq); apply xc_ret; (repeat (first | apply xq_thenR | apply xq_blockR | apply xq_scopeR)))
 exact xq_retC T_ rfl rfl rfl (by repeat first | exact mH | apply mT | apply mA) rfl fun w' hw => ⟨rfl, hw.kx.below⟩
set_option maxHeartbeats 8000000 in
theorem says4_calls (R E : Int) (A B : Option Addr) (n c n2 c2 : Nat) (r : Nat → Int) (m : MarT) (w : World) (hm : MarkOK m) (hE : 0 ≤ E ∧ E ≤ 600) (hr : SureR r) (hglob : GlobO w) :
  Calls Tryd.prog 68 #[.agg (scnV R A n c E B n2 c2).toArray, .agg (marV m).toArray, .agg (rowV r).toArray] w fun e w' => e = .returned (.agg (spaV (untilF m.f4.f1 (r m.f2.toNat))).toArray) ∧ Below w.heap.size w w' := by
 obtain ⟨⟨k1, k2⟩, ⟨q1, q2⟩, ⟨q3, q4⟩, ⟨q5, q6⟩, ⟨q7, q8⟩, ⟨q9, q10⟩⟩ := hm
 have hs := hr m.f2.toNat (by omega)
 refine x_calls (X := XNone) Tryd.func68 rfl rfl rfl ?_
 with_reducible ((repeat apply xc_seq); apply xcR)
 refine xo_box rfl rfl rfl rfl (fun b3 => ?_)
 refine xo_box rfl rfl rfl rfl (fun b4 => ?_)
 refine xo_box rfl rfl rfl rfl (fun b5 => ?_)
 refine xo_alloc T_ rfl rfl rfl rfl (fun b6 => ?_)
 with_reducible (apply xo_nil; (repeat first | apply xqT | apply xqB | apply xqS); (repeat apply xc_seq))
 apply xc_drawE (fun g => []) (fun (η0 : Hp) g => match g with | [] => (η0) | a0 :: _ => ((b6, true, cel (spaV (untilF m.f4.f1 (r m.f2.toNat))) 55) :: (b5, true, cel (rowV r) 101) :: (b4, true, cel (marV m) 60) :: (b3, true, cel (scnV R A n c E B n2 c2) 25) :: [])) (fun _ => True) [0, 0, 0, 0, 0, 0, 0, 0, 1] [8] [[7, 7, 0, 1, 2, 3, 4, 5, 6, 7]] (by trivial)
 apply SameLen.cons
 apply SameLen.cons
 apply SameLen.cons
 apply SameLen.cons
 apply SameLen.cons
 apply SameLen.cons
 apply SameLen.cons
 apply SameLen.cons
 apply SameLen.cons
 exact SameLen.nil
 rotate_left 9
 case hH0 => rfl
 case hmix => exact T_.mixed
 case hbind => rfl
 case hdeps => rfl
 case hdist => rfl
 case hfresh => rfl
 case hE => rfl
 case hEn => decide
 ·refine DrawE.pure 0 0 rfl (.inr (by decide)) (fun L g hg hd => Nat.zero_le _) (fun g hlo hhi hF τ => ?_) ?_
  ·rcases g with _ | ⟨a0, _ | ⟨a1, g⟩⟩ <;> first | (simp only [lenC, lenN] at hlo hhi; omega) | (refine ⟨_, rfl, ?_⟩; refine xo_fa T_ rfl rfl rfl rfl rfl ?_; exact xoF)
  refine DrawE.pure 0 0 rfl (.inr (by decide)) (fun L g hg hd => Nat.zero_le _) (fun g hlo hhi hF τ => ?_) ?_
  ·rcases g with _ | ⟨a0, _ | ⟨a1, g⟩⟩ <;> first | (simp only [lenC, lenN] at hlo hhi; omega) | (refine ⟨_, rfl, ?_⟩; refine xo_fa T_ rfl rfl rfl rfl rfl ?_; exact xoF)
  refine DrawE.pure 0 0 rfl (.inr (by decide)) (fun L g hg hd => Nat.zero_le _) (fun g hlo hhi hF τ => ?_) ?_
  ·rcases g with _ | ⟨a0, _ | ⟨a1, g⟩⟩ <;> first | (simp only [lenC, lenN] at hlo hhi; omega) | (refine ⟨_, rfl, ?_⟩; refine xo_load0 T_ rfl rfl rfl (by repeat first | exact mH | apply mT | apply mA) rfl rfl ?_; exact xoF)
  refine DrawE.pure 0 0 rfl (.inr (by decide)) (fun L g hg hd => Nat.zero_le _) (fun g hlo hhi hF τ => ?_) ?_
  ·rcases g with _ | ⟨a0, _ | ⟨a1, g⟩⟩ <;> first | (simp only [lenC, lenN] at hlo hhi; omega) | (refine ⟨_, rfl, ?_⟩; refine xo_fa T_ rfl rfl rfl rfl rfl ?_; exact xoF)
  refine DrawE.pure 0 0 rfl (.inr (by decide)) (fun L g hg hd => Nat.zero_le _) (fun g hlo hhi hF τ => ?_) ?_
  ·rcases g with _ | ⟨a0, _ | ⟨a1, g⟩⟩ <;> first | (simp only [lenC, lenN] at hlo hhi; omega) | (refine ⟨_, rfl, ?_⟩; refine xo_load0 T_ rfl rfl rfl (by repeat first | exact mH | apply mT | apply mA) rfl rfl ?_; exact xoF)
  refine DrawE.pure 0 0 rfl (.inr (by decide)) (fun L g hg hd => Nat.zero_le _) (fun g hlo hhi hF τ => ?_) ?_
  ·rcases g with _ | ⟨a0, _ | ⟨a1, g⟩⟩ <;> first | (simp only [lenC, lenN] at hlo hhi; omega) | (refine ⟨_, rfl, ?_⟩; refine xo_iaL T_ rfl Tryd.underlying101 rfl rfl rfl ⟨by omega, by omega⟩ rfl ?_; exact xoF)
  refine DrawE.pure 0 0 rfl (.inr (by decide)) (fun L g hg hd => Nat.zero_le _) (fun g hlo hhi hF τ => ?_) ?_
  ·rcases g with _ | ⟨a0, _ | ⟨a1, g⟩⟩ <;> first | (simp only [lenC, lenN] at hlo hhi; omega) | (refine ⟨_, rfl, ?_⟩; refine xo_load0 T_ rfl rfl rfl (by repeat first | exact mH | apply mT | apply mA) (rowV_at r ⟨by omega, by omega⟩) rfl ?_; exact xoF)
  refine DrawE.pure 0 0 rfl (.inr (by decide)) (fun L g hg hd => Nat.zero_le _) (fun g hlo hhi hF τ => ?_) ?_
  ·rcases g with _ | ⟨a0, _ | ⟨a1, g⟩⟩ <;> first | (simp only [lenC, lenN] at hlo hhi; omega) | (refine ⟨_, rfl, ?_⟩; refine xo_callB (fs := []) (cs := []) rfl rfl rfl until_enters rfl (fun w1 hw1 => until_calls (m.f4.f1) (r m.f2.toNat) w1 ⟨by omega, by omega⟩ hs (hglob.below hw1.kx.below)) ?_; exact xoF)
  refine DrawE.eff 0 rfl (by decide) rfl (fun j hj => hj) (fun j g a hj => ?_) (fun L g hg hd => Nat.zero_le _) (fun g hgl hF τ => ?_) ?_
  ·rcases j with _ | _ | _ | _ | _ | _ | _ | _ | _ | j
   all_goals first | rfl | (rcases g with _ | ⟨a0, _ | ⟨a1, g⟩⟩ <;> first | rfl | exact absurd hj (by decide) | exact absurd hj (by simp [List.getD]))
  ·obtain rfl : g = [] := by
    rcases g with _ | ⟨a0, g⟩ <;> first | rfl | (exfalso; simp only [List.length_cons, List.length_nil] at hgl; omega)
   refine xo_store T_ rfl rfl rfl rfl (by repeat first | exact mH | apply mT | apply mA) rfl rfl rfl rfl (by repeat first | exact Upd.head | apply Upd.tail | apply Upd.app) rfl ?_
   exact xo_finE ⟨0, 0, none⟩ rfl trivial
  exact DrawE.nil
 intro g hgl hF
 obtain ⟨a0, rfl⟩ : ∃ a0, g = [a0] := by
  rcases g with _ | ⟨a0, _ | ⟨a1, g⟩⟩ <;> first | exact ⟨_, rfl⟩ | (exfalso; simp only [List.length_cons, List.length_nil] at hgl; omega)
 with_reducible ((repeat first | apply xqT | apply xqB | apply xqS); (repeat apply xc_seq); apply xc_ret; (repeat (first | apply xq_thenR | apply xq_blockR | apply xq_scopeR)))
 exact xq_retC T_ rfl rfl rfl (by repeat first | exact mH | apply mT | apply mA) rfl fun w' hw => ⟨rfl, hw.kx.below⟩
set_option maxHeartbeats 8000000 in
theorem says5_calls (R E : Int) (A B : Option Addr) (n c n2 c2 : Nat) (r : Nat → Int) (m : MarT) (w : World) (hm : MarkOK m) (hE : 0 ≤ E ∧ E ≤ 600) (hr : SureR r) (hglob : GlobO w) :
  Calls Tryd.prog 70 #[.agg (scnV R A n c E B n2 c2).toArray, .agg (marV m).toArray, .agg (rowV r).toArray] w fun e w' => e = .returned (.agg (spaV (untilF (E - m.f5) (r m.f2.toNat))).toArray) ∧ Below w.heap.size w w' := by
 obtain ⟨⟨k1, k2⟩, ⟨q1, q2⟩, ⟨q3, q4⟩, ⟨q5, q6⟩, ⟨q7, q8⟩, ⟨q9, q10⟩⟩ := hm
 have hs := hr m.f2.toNat (by omega)
 refine x_calls (X := XNone) Tryd.func70 rfl rfl rfl ?_
 with_reducible ((repeat apply xc_seq); apply xcR)
 refine xo_box rfl rfl rfl rfl (fun b3 => ?_)
 refine xo_box rfl rfl rfl rfl (fun b4 => ?_)
 refine xo_box rfl rfl rfl rfl (fun b5 => ?_)
 refine xo_alloc T_ rfl rfl rfl rfl (fun b6 => ?_)
 with_reducible (apply xo_nil; (repeat first | apply xqT | apply xqB | apply xqS); (repeat apply xc_seq))
 apply xc_drawE (fun g => []) (fun (η0 : Hp) g => match g with | [] => (η0) | a0 :: _ => ((b6, true, cel (spaV (untilF (E - m.f5) (r m.f2.toNat))) 55) :: (b5, true, cel (rowV r) 101) :: (b4, true, cel (marV m) 60) :: (b3, true, cel (scnV R A n c E B n2 c2) 25) :: [])) (fun _ => True) [0, 0, 0, 0, 0, 0, 0, 0, 0, 0, 1] [10] [[9, 9, 0, 1, 2, 3, 4, 5, 6, 7, 8, 9]] (by trivial)
 apply SameLen.cons
 apply SameLen.cons
 apply SameLen.cons
 apply SameLen.cons
 apply SameLen.cons
 apply SameLen.cons
 apply SameLen.cons
 apply SameLen.cons
 apply SameLen.cons
 apply SameLen.cons
 apply SameLen.cons
 exact SameLen.nil
 rotate_left 11
 case hH0 => rfl
 case hmix => exact T_.mixed
 case hbind => rfl
 case hdeps => rfl
 case hdist => rfl
 case hfresh => rfl
 case hE => rfl
 case hEn => decide
 ·refine DrawE.pure 0 0 rfl (.inr (by decide)) (fun L g hg hd => Nat.zero_le _) (fun g hlo hhi hF τ => ?_) ?_
  ·rcases g with _ | ⟨a0, _ | ⟨a1, g⟩⟩ <;> first | (simp only [lenC, lenN] at hlo hhi; omega) | (refine ⟨_, rfl, ?_⟩; refine xo_fa T_ rfl rfl rfl rfl rfl ?_; exact xoF)
  refine DrawE.pure 0 0 rfl (.inr (by decide)) (fun L g hg hd => Nat.zero_le _) (fun g hlo hhi hF τ => ?_) ?_
  ·rcases g with _ | ⟨a0, _ | ⟨a1, g⟩⟩ <;> first | (simp only [lenC, lenN] at hlo hhi; omega) | (refine ⟨_, rfl, ?_⟩; refine xo_load0 T_ rfl rfl rfl (by repeat first | exact mH | apply mT | apply mA) rfl rfl ?_; exact xoF)
  refine DrawE.pure 0 0 rfl (.inr (by decide)) (fun L g hg hd => Nat.zero_le _) (fun g hlo hhi hF τ => ?_) ?_
  ·rcases g with _ | ⟨a0, _ | ⟨a1, g⟩⟩ <;> first | (simp only [lenC, lenN] at hlo hhi; omega) | (refine ⟨_, rfl, ?_⟩; refine xo_fa T_ rfl rfl rfl rfl rfl ?_; exact xoF)
  refine DrawE.pure 0 0 rfl (.inr (by decide)) (fun L g hg hd => Nat.zero_le _) (fun g hlo hhi hF τ => ?_) ?_
  ·rcases g with _ | ⟨a0, _ | ⟨a1, g⟩⟩ <;> first | (simp only [lenC, lenN] at hlo hhi; omega) | (refine ⟨_, rfl, ?_⟩; refine xo_load0 T_ rfl rfl rfl (by repeat first | exact mH | apply mT | apply mA) rfl rfl ?_; exact xoF)
  refine DrawE.pure 0 0 rfl (.inr (by decide)) (fun L g hg hd => Nat.zero_le _) (fun g hlo hhi hF τ => ?_) ?_
  ·rcases g with _ | ⟨a0, _ | ⟨a1, g⟩⟩ <;> first | (simp only [lenC, lenN] at hlo hhi; omega) | (refine ⟨_, rfl, ?_⟩; refine xo_sub rfl rfl rfl (by omega) rfl ?_; exact xoF)
  refine DrawE.pure 0 0 rfl (.inr (by decide)) (fun L g hg hd => Nat.zero_le _) (fun g hlo hhi hF τ => ?_) ?_
  ·rcases g with _ | ⟨a0, _ | ⟨a1, g⟩⟩ <;> first | (simp only [lenC, lenN] at hlo hhi; omega) | (refine ⟨_, rfl, ?_⟩; refine xo_fa T_ rfl rfl rfl rfl rfl ?_; exact xoF)
  refine DrawE.pure 0 0 rfl (.inr (by decide)) (fun L g hg hd => Nat.zero_le _) (fun g hlo hhi hF τ => ?_) ?_
  ·rcases g with _ | ⟨a0, _ | ⟨a1, g⟩⟩ <;> first | (simp only [lenC, lenN] at hlo hhi; omega) | (refine ⟨_, rfl, ?_⟩; refine xo_load0 T_ rfl rfl rfl (by repeat first | exact mH | apply mT | apply mA) rfl rfl ?_; exact xoF)
  refine DrawE.pure 0 0 rfl (.inr (by decide)) (fun L g hg hd => Nat.zero_le _) (fun g hlo hhi hF τ => ?_) ?_
  ·rcases g with _ | ⟨a0, _ | ⟨a1, g⟩⟩ <;> first | (simp only [lenC, lenN] at hlo hhi; omega) | (refine ⟨_, rfl, ?_⟩; refine xo_iaL T_ rfl Tryd.underlying101 rfl rfl rfl ⟨by omega, by omega⟩ rfl ?_; exact xoF)
  refine DrawE.pure 0 0 rfl (.inr (by decide)) (fun L g hg hd => Nat.zero_le _) (fun g hlo hhi hF τ => ?_) ?_
  ·rcases g with _ | ⟨a0, _ | ⟨a1, g⟩⟩ <;> first | (simp only [lenC, lenN] at hlo hhi; omega) | (refine ⟨_, rfl, ?_⟩; refine xo_load0 T_ rfl rfl rfl (by repeat first | exact mH | apply mT | apply mA) (rowV_at r ⟨by omega, by omega⟩) rfl ?_; exact xoF)
  refine DrawE.pure 0 0 rfl (.inr (by decide)) (fun L g hg hd => Nat.zero_le _) (fun g hlo hhi hF τ => ?_) ?_
  ·rcases g with _ | ⟨a0, _ | ⟨a1, g⟩⟩ <;> first | (simp only [lenC, lenN] at hlo hhi; omega) | (refine ⟨_, rfl, ?_⟩; refine xo_callB (fs := []) (cs := []) rfl rfl rfl until_enters rfl (fun w1 hw1 => until_calls (E - m.f5) (r m.f2.toNat) w1 ⟨by omega, by omega⟩ hs (hglob.below hw1.kx.below)) ?_; exact xoF)
  refine DrawE.eff 0 rfl (by decide) rfl (fun j hj => hj) (fun j g a hj => ?_) (fun L g hg hd => Nat.zero_le _) (fun g hgl hF τ => ?_) ?_
  ·rcases j with _ | _ | _ | _ | _ | _ | _ | _ | _ | _ | _ | j
   all_goals first | rfl | (rcases g with _ | ⟨a0, _ | ⟨a1, g⟩⟩ <;> first | rfl | exact absurd hj (by decide) | exact absurd hj (by simp [List.getD]))
  ·obtain rfl : g = [] := by
    rcases g with _ | ⟨a0, g⟩ <;> first | rfl | (exfalso; simp only [List.length_cons, List.length_nil] at hgl; omega)
   refine xo_store T_ rfl rfl rfl rfl (by repeat first | exact mH | apply mT | apply mA) rfl rfl rfl rfl (by repeat first | exact Upd.head | apply Upd.tail | apply Upd.app) rfl ?_
   exact xo_finE ⟨0, 0, none⟩ rfl trivial
  exact DrawE.nil
 intro g hgl hF
 obtain ⟨a0, rfl⟩ : ∃ a0, g = [a0] := by
  rcases g with _ | ⟨a0, _ | ⟨a1, g⟩⟩ <;> first | exact ⟨_, rfl⟩ | (exfalso; simp only [List.length_cons, List.length_nil] at hgl; omega)
 with_reducible ((repeat first | apply xqT | apply xqB | apply xqS); (repeat apply xc_seq); apply xc_ret; (repeat (first | apply xq_thenR | apply xq_blockR | apply xq_scopeR)))
 exact xq_retC T_ rfl rfl rfl (by repeat first | exact mH | apply mT | apply mA) rfl fun w' hw => ⟨rfl, hw.kx.below⟩
set_option maxHeartbeats 8000000 in
theorem says6_calls (R E : Int) (A B : Option Addr) (n c n2 c2 : Nat) (r : Nat → Int) (m : MarT) (w : World) (hm : MarkOK m) (hE : 0 ≤ E ∧ E ≤ 600) (hr : SureR r) (hglob : GlobO w) :
  Calls Tryd.prog 71 #[.agg (scnV R A n c E B n2 c2).toArray, .agg (marV m).toArray, .agg (rowV r).toArray] w fun e w' => e = .returned (.agg (spaV (afterF (E - m.f5) (r m.f2.toNat))).toArray) ∧ Below w.heap.size w w' := by
 obtain ⟨⟨k1, k2⟩, ⟨q1, q2⟩, ⟨q3, q4⟩, ⟨q5, q6⟩, ⟨q7, q8⟩, ⟨q9, q10⟩⟩ := hm
 have hs := hr m.f2.toNat (by omega)
 refine x_calls (X := XNone) Tryd.func71 rfl rfl rfl ?_
 with_reducible ((repeat apply xc_seq); apply xcR)
 refine xo_box rfl rfl rfl rfl (fun b3 => ?_)
 refine xo_box rfl rfl rfl rfl (fun b4 => ?_)
 refine xo_box rfl rfl rfl rfl (fun b5 => ?_)
 refine xo_alloc T_ rfl rfl rfl rfl (fun b6 => ?_)
 with_reducible (apply xo_nil; (repeat first | apply xqT | apply xqB | apply xqS); (repeat apply xc_seq))
 apply xc_drawE (fun g => []) (fun (η0 : Hp) g => match g with | [] => (η0) | a0 :: _ => ((b6, true, cel (spaV (afterF (E - m.f5) (r m.f2.toNat))) 55) :: (b5, true, cel (rowV r) 101) :: (b4, true, cel (marV m) 60) :: (b3, true, cel (scnV R A n c E B n2 c2) 25) :: [])) (fun _ => True) [0, 0, 0, 0, 0, 0, 0, 0, 0, 0, 1] [10] [[9, 9, 0, 1, 2, 3, 4, 5, 6, 7, 8, 9]] (by trivial)
 apply SameLen.cons
 apply SameLen.cons
 apply SameLen.cons
 apply SameLen.cons
 apply SameLen.cons
 apply SameLen.cons
 apply SameLen.cons
 apply SameLen.cons
 apply SameLen.cons
 apply SameLen.cons
 apply SameLen.cons
 exact SameLen.nil
 rotate_left 11
 case hH0 => rfl
 case hmix => exact T_.mixed
 case hbind => rfl
 case hdeps => rfl
 case hdist => rfl
 case hfresh => rfl
 case hE => rfl
 case hEn => decide
 ·refine DrawE.pure 0 0 rfl (.inr (by decide)) (fun L g hg hd => Nat.zero_le _) (fun g hlo hhi hF τ => ?_) ?_
  ·rcases g with _ | ⟨a0, _ | ⟨a1, g⟩⟩ <;> first | (simp only [lenC, lenN] at hlo hhi; omega) | (refine ⟨_, rfl, ?_⟩; refine xo_fa T_ rfl rfl rfl rfl rfl ?_; exact xoF)
  refine DrawE.pure 0 0 rfl (.inr (by decide)) (fun L g hg hd => Nat.zero_le _) (fun g hlo hhi hF τ => ?_) ?_
  ·rcases g with _ | ⟨a0, _ | ⟨a1, g⟩⟩ <;> first | (simp only [lenC, lenN] at hlo hhi; omega) | (refine ⟨_, rfl, ?_⟩; refine xo_load0 T_ rfl rfl rfl (by repeat first | exact mH | apply mT | apply mA) rfl rfl ?_; exact xoF)
  refine DrawE.pure 0 0 rfl (.inr (by decide)) (fun L g hg hd => Nat.zero_le _) (fun g hlo hhi hF τ => ?_) ?_
  ·rcases g with _ | ⟨a0, _ | ⟨a1, g⟩⟩ <;> first | (simp only [lenC, lenN] at hlo hhi; omega) | (refine ⟨_, rfl, ?_⟩; refine xo_fa T_ rfl rfl rfl rfl rfl ?_; exact xoF)
  refine DrawE.pure 0 0 rfl (.inr (by decide)) (fun L g hg hd => Nat.zero_le _) (fun g hlo hhi hF τ => ?_) ?_
  ·rcases g with _ | ⟨a0, _ | ⟨a1, g⟩⟩ <;> first | (simp only [lenC, lenN] at hlo hhi; omega) | (refine ⟨_, rfl, ?_⟩; refine xo_load0 T_ rfl rfl rfl (by repeat first | exact mH | apply mT | apply mA) rfl rfl ?_; exact xoF)
  refine DrawE.pure 0 0 rfl (.inr (by decide)) (fun L g hg hd => Nat.zero_le _) (fun g hlo hhi hF τ => ?_) ?_
  ·rcases g with _ | ⟨a0, _ | ⟨a1, g⟩⟩ <;> first | (simp only [lenC, lenN] at hlo hhi; omega) | (refine ⟨_, rfl, ?_⟩; refine xo_sub rfl rfl rfl (by omega) rfl ?_; exact xoF)
  refine DrawE.pure 0 0 rfl (.inr (by decide)) (fun L g hg hd => Nat.zero_le _) (fun g hlo hhi hF τ => ?_) ?_
  ·rcases g with _ | ⟨a0, _ | ⟨a1, g⟩⟩ <;> first | (simp only [lenC, lenN] at hlo hhi; omega) | (refine ⟨_, rfl, ?_⟩; refine xo_fa T_ rfl rfl rfl rfl rfl ?_; exact xoF)
  refine DrawE.pure 0 0 rfl (.inr (by decide)) (fun L g hg hd => Nat.zero_le _) (fun g hlo hhi hF τ => ?_) ?_
  ·rcases g with _ | ⟨a0, _ | ⟨a1, g⟩⟩ <;> first | (simp only [lenC, lenN] at hlo hhi; omega) | (refine ⟨_, rfl, ?_⟩; refine xo_load0 T_ rfl rfl rfl (by repeat first | exact mH | apply mT | apply mA) rfl rfl ?_; exact xoF)
  refine DrawE.pure 0 0 rfl (.inr (by decide)) (fun L g hg hd => Nat.zero_le _) (fun g hlo hhi hF τ => ?_) ?_
  ·rcases g with _ | ⟨a0, _ | ⟨a1, g⟩⟩ <;> first | (simp only [lenC, lenN] at hlo hhi; omega) | (refine ⟨_, rfl, ?_⟩; refine xo_iaL T_ rfl Tryd.underlying101 rfl rfl rfl ⟨by omega, by omega⟩ rfl ?_; exact xoF)
  refine DrawE.pure 0 0 rfl (.inr (by decide)) (fun L g hg hd => Nat.zero_le _) (fun g hlo hhi hF τ => ?_) ?_
  ·rcases g with _ | ⟨a0, _ | ⟨a1, g⟩⟩ <;> first | (simp only [lenC, lenN] at hlo hhi; omega) | (refine ⟨_, rfl, ?_⟩; refine xo_load0 T_ rfl rfl rfl (by repeat first | exact mH | apply mT | apply mA) (rowV_at r ⟨by omega, by omega⟩) rfl ?_; exact xoF)
  refine DrawE.pure 0 0 rfl (.inr (by decide)) (fun L g hg hd => Nat.zero_le _) (fun g hlo hhi hF τ => ?_) ?_
  ·rcases g with _ | ⟨a0, _ | ⟨a1, g⟩⟩ <;> first | (simp only [lenC, lenN] at hlo hhi; omega) | (refine ⟨_, rfl, ?_⟩; refine xo_callB (fs := []) (cs := []) rfl rfl rfl after_enters rfl (fun w1 hw1 => after_calls (E - m.f5) (r m.f2.toNat) w1 ⟨by omega, by omega⟩ hs) ?_; exact xoF)
  refine DrawE.eff 0 rfl (by decide) rfl (fun j hj => hj) (fun j g a hj => ?_) (fun L g hg hd => Nat.zero_le _) (fun g hgl hF τ => ?_) ?_
  ·rcases j with _ | _ | _ | _ | _ | _ | _ | _ | _ | _ | _ | j
   all_goals first | rfl | (rcases g with _ | ⟨a0, _ | ⟨a1, g⟩⟩ <;> first | rfl | exact absurd hj (by decide) | exact absurd hj (by simp [List.getD]))
  ·obtain rfl : g = [] := by
    rcases g with _ | ⟨a0, g⟩ <;> first | rfl | (exfalso; simp only [List.length_cons, List.length_nil] at hgl; omega)
   refine xo_store T_ rfl rfl rfl rfl (by repeat first | exact mH | apply mT | apply mA) rfl rfl rfl rfl (by repeat first | exact Upd.head | apply Upd.tail | apply Upd.app) rfl ?_
   exact xo_finE ⟨0, 0, none⟩ rfl trivial
  exact DrawE.nil
 intro g hgl hF
 obtain ⟨a0, rfl⟩ : ∃ a0, g = [a0] := by
  rcases g with _ | ⟨a0, _ | ⟨a1, g⟩⟩ <;> first | exact ⟨_, rfl⟩ | (exfalso; simp only [List.length_cons, List.length_nil] at hgl; omega)
 with_reducible ((repeat first | apply xqT | apply xqB | apply xqS); (repeat apply xc_seq); apply xc_ret; (repeat (first | apply xq_thenR | apply xq_blockR | apply xq_scopeR)))
 exact xq_retC T_ rfl rfl rfl (by repeat first | exact mH | apply mT | apply mA) rfl fun w' hw => ⟨rfl, hw.kx.below⟩
set_option maxHeartbeats 8000000 in
theorem says8_calls (R E : Int) (A B : Option Addr) (n c n2 c2 : Nat) (r : Nat → Int) (m : MarT) (w : World) (hm : MarkOK m) (hE : 0 ≤ E ∧ E ≤ 600) (hr : SureR r) (hglob : GlobO w) :
  Calls Tryd.prog 73 #[.agg (scnV R A n c E B n2 c2).toArray, .agg (marV m).toArray, .agg (rowV r).toArray] w fun e w' => e = .returned (.agg (spaV (if r m.f2.toNat < r m.f3.toNat then ⟨-1073741824, 1073741824⟩ else nowhereF)).toArray) ∧ Below w.heap.size w w' := by
 obtain ⟨⟨k1, k2⟩, ⟨q1, q2⟩, ⟨q3, q4⟩, ⟨q5, q6⟩, ⟨q7, q8⟩, ⟨q9, q10⟩⟩ := hm
 have hs := hr m.f2.toNat (by omega)
 refine x_calls (X := XNone) Tryd.func73 rfl rfl rfl ?_
 with_reducible ((repeat apply xc_seq); apply xcR)
 refine xo_box rfl rfl rfl rfl (fun b3 => ?_)
 refine xo_box rfl rfl rfl rfl (fun b4 => ?_)
 refine xo_box rfl rfl rfl rfl (fun b5 => ?_)
 refine xo_alloc T_ rfl rfl rfl rfl (fun b6 => ?_)
 with_reducible (apply xo_nil; (repeat first | apply xqT | apply xqB | apply xqS); (repeat apply xc_seq))
 apply xc_drawN
 ·exact T_.mixed
 ·rfl
 ·rfl
 ·rfl
 ·rfl
 ·apply DrawOps.cons
  ·intro τ
   refine xo_fa T_ rfl rfl rfl rfl rfl ?_
   exact xoF
  apply DrawOps.cons
  ·intro τ
   refine xo_load0 T_ rfl rfl rfl (by repeat first | exact mH | apply mT | apply mA) rfl rfl ?_
   exact xoF
  apply DrawOps.cons
  ·intro τ
   refine xo_iaL T_ rfl Tryd.underlying101 rfl rfl rfl ⟨by omega, by omega⟩ rfl ?_
   exact xoF
  apply DrawOps.cons
  ·intro τ
   refine xo_load0 T_ rfl rfl rfl (by repeat first | exact mH | apply mT | apply mA) (rowV_at r ⟨by omega, by omega⟩) rfl ?_
   exact xoF
  apply DrawOps.cons
  ·intro τ
   refine xo_fa T_ rfl rfl rfl rfl rfl ?_
   exact xoF
  apply DrawOps.cons
  ·intro τ
   refine xo_load0 T_ rfl rfl rfl (by repeat first | exact mH | apply mT | apply mA) rfl rfl ?_
   exact xoF
  apply DrawOps.cons
  ·intro τ
   refine xo_iaL T_ rfl Tryd.underlying101 rfl rfl rfl ⟨by omega, by omega⟩ rfl ?_
   exact xoF
  apply DrawOps.cons
  ·intro τ
   refine xo_load0 T_ rfl rfl rfl (by repeat first | exact mH | apply mT | apply mA) (rowV_at r ⟨by omega, by omega⟩) rfl ?_
   exact xoF
  apply DrawOps.cons
  ·intro τ
   refine xo_lss rfl rfl rfl rfl ?_
   exact xoF
  exact DrawOps.nil
 ·rfl
 with_reducible ((repeat first | apply xqT | apply xqB | apply xqS); (repeat apply xc_seq))
 refine xc_cond rfl (fun h => ?_) (fun h => ?_)
 ·have e := of_decide_eq_true h
  with_reducible ((repeat apply xc_seq); apply xcR)
  refine xo_build TB_ rfl rfl rfl rfl rfl ?_
  refine xo_store T_ rfl rfl rfl rfl (by repeat first | exact mH | apply mT | apply mA) rfl rfl rfl rfl (by repeat first | exact Upd.head | apply Upd.tail | apply Upd.app) rfl ?_
  with_reducible (apply xo_nil; (repeat first | apply xqT | apply xqB | apply xqS); (repeat apply xc_seq); apply xc_ret; (repeat (first | apply xq_thenR | apply xq_blockR | apply xq_scopeR)))
  exact xq_retC T_ rfl rfl rfl (by repeat first | exact mH | apply mT | apply mA) rfl fun w' hw => ⟨by rw [if_pos e]; rfl, hw.kx.below⟩
 ·have e := of_decide_eq_false h
  with_reducible (apply xc_skip; (repeat first | apply xqT | apply xqB | apply xqS); (repeat apply xc_seq); apply xcR)
  refine xo_loadRN T_ rfl rfl rfl hglob rfl rfl ?_
  refine xo_store T_ rfl rfl rfl rfl (by repeat first | exact mH | apply mT | apply mA) rfl rfl rfl rfl (by repeat first | exact Upd.head | apply Upd.tail | apply Upd.app) rfl ?_
  with_reducible (apply xo_nil; (repeat first | apply xqT | apply xqB | apply xqS); (repeat apply xc_seq); apply xc_ret; (repeat (first | apply xq_thenR | apply xq_blockR | apply xq_scopeR)))
  exact xq_retC T_ rfl rfl rfl (by repeat first | exact mH | apply mT | apply mA) rfl fun w' hw => ⟨by rw [if_neg e]; rfl, hw.kx.below⟩
theorem says_calls (R E : Int) (A B : Option Addr) (n c n2 c2 : Nat) (r : Nat → Int) (m : MarT) (w : World) (hm : MarkOK m) (hE : 0 ≤ E ∧ E ≤ 600) (hr : SureR r) (hglob : GlobO w) :
  Calls Tryd.prog (saysK m.f1) #[.agg (scnV R A n c E B n2 c2).toArray, .agg (marV m).toArray, .agg (rowV r).toArray] w fun e w' => e = .returned (.agg (spaV (saysF E r m)).toArray) ∧ Below w.heap.size w w' := by
 unfold saysK saysF
 by_cases h1 : m.f1 ≤ 1
 ·rw [if_pos h1, if_pos h1]; exact says2_calls R E A B n c n2 c2 r m w hm hE hr hglob
 rw [if_neg h1, if_neg h1]
 by_cases h2 : m.f1 ≤ 2
 ·rw [if_pos h2, if_pos h2]; exact says3_calls R E A B n c n2 c2 r m w hm hE hr hglob
 rw [if_neg h2, if_neg h2]
 by_cases h3 : m.f1 ≤ 3
 ·rw [if_pos h3, if_pos h3]; exact says4_calls R E A B n c n2 c2 r m w hm hE hr hglob
 rw [if_neg h3, if_neg h3]
 by_cases h4 : m.f1 ≤ 4
 ·rw [if_pos h4, if_pos h4]; exact says5_calls R E A B n c n2 c2 r m w hm hE hr hglob
 rw [if_neg h4, if_neg h4]
 by_cases h5 : m.f1 ≤ 5
 ·rw [if_pos h5, if_pos h5]; exact says6_calls R E A B n c n2 c2 r m w hm hE hr hglob
 ·rw [if_neg h5, if_neg h5]; exact says8_calls R E A B n c n2 c2 r m w hm hE hr hglob
end Go.Proofs.YtommeljlfkmpjaaDoor
