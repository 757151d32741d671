/- origin.Check. -/
import Derived.Test.YtommeljlfkmpjaaDoorPkLawOriginExamples5
set_option linter.unusedVariables false
set_option linter.unusedSimpArgs false
namespace Go.Proofs.YtommeljlfkmpjaaDoor
open Go.RowKit Go.Proofs.YtommeljlfkmpjaaDoorW.PrintWords
def checkF (R E : Int) (gs : List GatT) (ms : List MarT) : Int := if sceneF R E gs ms = true then 0 else 90
def BytesK (ms : List MarT) : Prop := ∀ m ∈ ms, 0 ≤ m.f1 ∧ m.f1 ≤ 255
def lastF (ms : List MarT) (k : Nat) : Int := if k = 0 then -1 else (ms.getD (k - 1) zMar).f0
theorem lastF_succ (ms : List MarT) (k : Nat) : lastF ms (k + 1) = (ms.getD k zMar).f0 := by simp [lastF]
theorem check_no {R E : Int} {gs : List GatT} {ms : List MarT} (h : sceneF R E gs ms = false) : checkF R E gs ms = 90 := by simp [checkF, h]
theorem inF_iff {lo hi x : Int} : inF lo hi x = true ↔ lo ≤ x ∧ x ≤ hi := by simp [inF]
theorem enter_check : ∀ args w, (callFunc 15 args).run Tryd.prog w = .ok (.enter 15 args) w := enters_of Tryd.func15 (by kernel_rfl) rfl
set_option maxHeartbeats 40000000 in
theorem check_calls (R E : Int) (A B : Option Addr) (c c2 : Nat) (gs : List GatT) (ms : List MarT) (w : World) (hA : Kd.C gatK w A gs.length gs) (hB : Kd.C marK w B ms.length ms) (hk : BytesK ms) :
    Calls Tryd.prog 15 #[.agg (scnV R A gs.length c E B ms.length c2).toArray] w fun e w' => e = .returned (.int .i64 (checkF R E gs ms)) ∧ Below w.heap.size w w' := by
  refine x_calls (X := XNone) Tryd.func15 rfl rfl rfl ?_
  with_reducible ((repeat apply xc_seq); apply xcR)
  refine xo_box rfl rfl rfl rfl (fun b1 => ?_)
  refine xoA ?_
  with_reducible (apply xo_nil; (repeat first | apply xqT | apply xqB | apply xqS))
  cases h1 : inF 1 6 R
  · have hn : sceneF R E gs ms = false := by simp [sceneF, h1]
    with_reducible ((repeat apply xc_seq); apply xcR)
    refine xo_fa T_ rfl rfl rfl rfl rfl ?_
    refine xo_load0 T_ rfl rfl rfl (by repeat first | exact mH | apply mT | apply mA) rfl rfl ?_
    refine xo_bs1 T_ rfl rfl rfl rfl rfl rfl rfl rfl (fun b10 => ?_)
    refine xo_callB (fs := []) (cs := []) rfl rfl rfl in_enters rfl (fun w1 hw1 => in_calls hw1 1 6 R (by repeat first | exact mH | apply mT | apply mA)) ?_
    refine xo_as (i := 11) rfl (congrArg Value.bool h1) ?_
    refine xo_notOp rfl rfl rfl ?_
    refine xoM ?_
    (first | refine xoN ?_ | refine xo_fa T_ rfl rfl rfl rfl rfl ?_)
    (first | refine xoN ?_ | refine xo_load0 T_ rfl rfl rfl (by repeat first | exact mH | apply mT | apply mA) rfl rfl ?_)
    (first | refine xoN ?_ | refine xo_bs1 T_ rfl rfl rfl rfl rfl rfl rfl rfl (fun b16 => ?_))
    (first | refine xoN ?_ | refine xo_callB (fs := []) (cs := []) rfl rfl rfl in_enters rfl (fun w1 hw1 => in_calls hw1 0 600 E (by repeat first | exact mH | apply mT | apply mA)) ?_)
    (first | refine xoN ?_ | refine xo_notOp rfl rfl rfl ?_)
    first | refine xo_pickT rfl rfl rfl rfl ?_ | refine xo_pickF rfl rfl rfl rfl ?_
    refine xoM ?_
    (first | refine xoN ?_ | refine xo_fa T_ rfl rfl rfl rfl rfl ?_)
    (first | refine xoN ?_ | refine xo_load0 T_ rfl rfl rfl (by repeat first | exact mH | apply mT | apply mA) rfl rfl ?_)
    (first | refine xoN ?_ | refine xo_len T_ rfl rfl rfl rfl ?_)
    (first | refine xoN ?_ | refine xo_gtr rfl rfl rfl rfl ?_)
    first | refine xo_pickT rfl rfl rfl rfl ?_ | refine xo_pickF rfl rfl rfl rfl ?_
    refine xoM ?_
    (first | refine xoN ?_ | refine xo_fa T_ rfl rfl rfl rfl rfl ?_)
    (first | refine xoN ?_ | refine xo_load0 T_ rfl rfl rfl (by repeat first | exact mH | apply mT | apply mA) rfl rfl ?_)
    (first | refine xoN ?_ | refine xo_len T_ rfl rfl rfl rfl ?_)
    (first | refine xoN ?_ | refine xo_gtr rfl rfl rfl rfl ?_)
    first | refine xo_pickT rfl rfl rfl rfl ?_ | refine xo_pickF rfl rfl rfl rfl ?_
    with_reducible (apply xo_nil; (repeat first | apply xqT | apply xqB | apply xqS); (repeat apply xc_seq))
    refine xc_condT rfl ?_
    with_reducible ((repeat apply xc_seq); apply xcR)
    refine xoA ?_
    with_reducible (apply xo_nil; (repeat first | apply xqT | apply xqB | apply xqS); (repeat apply xc_seq); apply xc_ret; (repeat (first | apply xq_thenR | apply xq_blockR | apply xq_scopeR)))
    exact xq_ret1 rfl rfl fun w' hw => ⟨by rw [check_no (by exact hn)], hw.kx.below⟩
  cases h2 : inF 0 600 E
  · have hn : sceneF R E gs ms = false := by simp [sceneF, h2]
    with_reducible ((repeat apply xc_seq); apply xcR)
    refine xo_fa T_ rfl rfl rfl rfl rfl ?_
    refine xo_load0 T_ rfl rfl rfl (by repeat first | exact mH | apply mT | apply mA) rfl rfl ?_
    refine xo_bs1 T_ rfl rfl rfl rfl rfl rfl rfl rfl (fun b10 => ?_)
    refine xo_callB (fs := []) (cs := []) rfl rfl rfl in_enters rfl (fun w1 hw1 => in_calls hw1 1 6 R (by repeat first | exact mH | apply mT | apply mA)) ?_
    refine xo_as (i := 11) rfl (congrArg Value.bool h1) ?_
    refine xo_notOp rfl rfl rfl ?_
    refine xoM ?_
    (first | refine xoN ?_ | refine xo_fa T_ rfl rfl rfl rfl rfl ?_)
    (first | refine xoN ?_ | refine xo_load0 T_ rfl rfl rfl (by repeat first | exact mH | apply mT | apply mA) rfl rfl ?_)
    (first | refine xoN ?_ | refine xo_bs1 T_ rfl rfl rfl rfl rfl rfl rfl rfl (fun b16 => ?_))
    (first | refine xoN ?_ | refine xo_callB (fs := []) (cs := []) rfl rfl rfl in_enters rfl (fun w1 hw1 => in_calls hw1 0 600 E (by repeat first | exact mH | apply mT | apply mA)) ?_)
    refine xo_as (i := 17) rfl (congrArg Value.bool h2) ?_
    (first | refine xoN ?_ | refine xo_notOp rfl rfl rfl ?_)
    first | refine xo_pickT rfl rfl rfl rfl ?_ | refine xo_pickF rfl rfl rfl rfl ?_
    refine xoM ?_
    (first | refine xoN ?_ | refine xo_fa T_ rfl rfl rfl rfl rfl ?_)
    (first | refine xoN ?_ | refine xo_load0 T_ rfl rfl rfl (by repeat first | exact mH | apply mT | apply mA) rfl rfl ?_)
    (first | refine xoN ?_ | refine xo_len T_ rfl rfl rfl rfl ?_)
    (first | refine xoN ?_ | refine xo_gtr rfl rfl rfl rfl ?_)
    first | refine xo_pickT rfl rfl rfl rfl ?_ | refine xo_pickF rfl rfl rfl rfl ?_
    refine xoM ?_
    (first | refine xoN ?_ | refine xo_fa T_ rfl rfl rfl rfl rfl ?_)
    (first | refine xoN ?_ | refine xo_load0 T_ rfl rfl rfl (by repeat first | exact mH | apply mT | apply mA) rfl rfl ?_)
    (first | refine xoN ?_ | refine xo_len T_ rfl rfl rfl rfl ?_)
    (first | refine xoN ?_ | refine xo_gtr rfl rfl rfl rfl ?_)
    first | refine xo_pickT rfl rfl rfl rfl ?_ | refine xo_pickF rfl rfl rfl rfl ?_
    with_reducible (apply xo_nil; (repeat first | apply xqT | apply xqB | apply xqS); (repeat apply xc_seq))
    refine xc_condT rfl ?_
    with_reducible ((repeat apply xc_seq); apply xcR)
    refine xoA ?_
    with_reducible (apply xo_nil; (repeat first | apply xqT | apply xqB | apply xqS); (repeat apply xc_seq); apply xc_ret; (repeat (first | apply xq_thenR | apply xq_blockR | apply xq_scopeR)))
    exact xq_ret1 rfl rfl fun w' hw => ⟨by rw [check_no (by exact hn)], hw.kx.below⟩
  cases h3 : decide ((6 : Int) < (gs.length : Int))
  rotate_left
  · have hn : sceneF R E gs ms = false := by
      have := of_decide_eq_true h3
      have h : ¬ gs.length ≤ 6 := by omega
      simp [sceneF, h]
    with_reducible ((repeat apply xc_seq); apply xcR)
    refine xo_fa T_ rfl rfl rfl rfl rfl ?_
    refine xo_load0 T_ rfl rfl rfl (by repeat first | exact mH | apply mT | apply mA) rfl rfl ?_
    refine xo_bs1 T_ rfl rfl rfl rfl rfl rfl rfl rfl (fun b10 => ?_)
    refine xo_callB (fs := []) (cs := []) rfl rfl rfl in_enters rfl (fun w1 hw1 => in_calls hw1 1 6 R (by repeat first | exact mH | apply mT | apply mA)) ?_
    refine xo_as (i := 11) rfl (congrArg Value.bool h1) ?_
    refine xo_notOp rfl rfl rfl ?_
    refine xoM ?_
    (first | refine xoN ?_ | refine xo_fa T_ rfl rfl rfl rfl rfl ?_)
    (first | refine xoN ?_ | refine xo_load0 T_ rfl rfl rfl (by repeat first | exact mH | apply mT | apply mA) rfl rfl ?_)
    (first | refine xoN ?_ | refine xo_bs1 T_ rfl rfl rfl rfl rfl rfl rfl rfl (fun b16 => ?_))
    (first | refine xoN ?_ | refine xo_callB (fs := []) (cs := []) rfl rfl rfl in_enters rfl (fun w1 hw1 => in_calls hw1 0 600 E (by repeat first | exact mH | apply mT | apply mA)) ?_)
    refine xo_as (i := 17) rfl (congrArg Value.bool h2) ?_
    (first | refine xoN ?_ | refine xo_notOp rfl rfl rfl ?_)
    first | refine xo_pickT rfl rfl rfl rfl ?_ | refine xo_pickF rfl rfl rfl rfl ?_
    refine xoM ?_
    (first | refine xoN ?_ | refine xo_fa T_ rfl rfl rfl rfl rfl ?_)
    (first | refine xoN ?_ | refine xo_load0 T_ rfl rfl rfl (by repeat first | exact mH | apply mT | apply mA) rfl rfl ?_)
    (first | refine xoN ?_ | refine xo_len T_ rfl rfl rfl rfl ?_)
    (first | refine xoN ?_ | refine xo_gtr rfl rfl rfl rfl ?_)
    refine xo_as (i := 24) rfl (congrArg Value.bool h3) ?_
    first | refine xo_pickT rfl rfl rfl rfl ?_ | refine xo_pickF rfl rfl rfl rfl ?_
    refine xoM ?_
    (first | refine xoN ?_ | refine xo_fa T_ rfl rfl rfl rfl rfl ?_)
    (first | refine xoN ?_ | refine xo_load0 T_ rfl rfl rfl (by repeat first | exact mH | apply mT | apply mA) rfl rfl ?_)
    (first | refine xoN ?_ | refine xo_len T_ rfl rfl rfl rfl ?_)
    (first | refine xoN ?_ | refine xo_gtr rfl rfl rfl rfl ?_)
    first | refine xo_pickT rfl rfl rfl rfl ?_ | refine xo_pickF rfl rfl rfl rfl ?_
    with_reducible (apply xo_nil; (repeat first | apply xqT | apply xqB | apply xqS); (repeat apply xc_seq))
    refine xc_condT rfl ?_
    with_reducible ((repeat apply xc_seq); apply xcR)
    refine xoA ?_
    with_reducible (apply xo_nil; (repeat first | apply xqT | apply xqB | apply xqS); (repeat apply xc_seq); apply xc_ret; (repeat (first | apply xq_thenR | apply xq_blockR | apply xq_scopeR)))
    exact xq_ret1 rfl rfl fun w' hw => ⟨by rw [check_no (by exact hn)], hw.kx.below⟩
  cases h4 : decide ((8 : Int) < (ms.length : Int))
  rotate_left
  · have hn : sceneF R E gs ms = false := by
      have := of_decide_eq_true h4
      have h : ¬ ms.length ≤ 8 := by omega
      simp [sceneF, h]
    with_reducible ((repeat apply xc_seq); apply xcR)
    refine xo_fa T_ rfl rfl rfl rfl rfl ?_
    refine xo_load0 T_ rfl rfl rfl (by repeat first | exact mH | apply mT | apply mA) rfl rfl ?_
    refine xo_bs1 T_ rfl rfl rfl rfl rfl rfl rfl rfl (fun b10 => ?_)
    refine xo_callB (fs := []) (cs := []) rfl rfl rfl in_enters rfl (fun w1 hw1 => in_calls hw1 1 6 R (by repeat first | exact mH | apply mT | apply mA)) ?_
    refine xo_as (i := 11) rfl (congrArg Value.bool h1) ?_
    refine xo_notOp rfl rfl rfl ?_
    refine xoM ?_
    (first | refine xoN ?_ | refine xo_fa T_ rfl rfl rfl rfl rfl ?_)
    (first | refine xoN ?_ | refine xo_load0 T_ rfl rfl rfl (by repeat first | exact mH | apply mT | apply mA) rfl rfl ?_)
    (first | refine xoN ?_ | refine xo_bs1 T_ rfl rfl rfl rfl rfl rfl rfl rfl (fun b16 => ?_))
    (first | refine xoN ?_ | refine xo_callB (fs := []) (cs := []) rfl rfl rfl in_enters rfl (fun w1 hw1 => in_calls hw1 0 600 E (by repeat first | exact mH | apply mT | apply mA)) ?_)
    refine xo_as (i := 17) rfl (congrArg Value.bool h2) ?_
    (first | refine xoN ?_ | refine xo_notOp rfl rfl rfl ?_)
    first | refine xo_pickT rfl rfl rfl rfl ?_ | refine xo_pickF rfl rfl rfl rfl ?_
    refine xoM ?_
    (first | refine xoN ?_ | refine xo_fa T_ rfl rfl rfl rfl rfl ?_)
    (first | refine xoN ?_ | refine xo_load0 T_ rfl rfl rfl (by repeat first | exact mH | apply mT | apply mA) rfl rfl ?_)
    (first | refine xoN ?_ | refine xo_len T_ rfl rfl rfl rfl ?_)
    (first | refine xoN ?_ | refine xo_gtr rfl rfl rfl rfl ?_)
    refine xo_as (i := 24) rfl (congrArg Value.bool h3) ?_
    first | refine xo_pickT rfl rfl rfl rfl ?_ | refine xo_pickF rfl rfl rfl rfl ?_
    refine xoM ?_
    (first | refine xoN ?_ | refine xo_fa T_ rfl rfl rfl rfl rfl ?_)
    (first | refine xoN ?_ | refine xo_load0 T_ rfl rfl rfl (by repeat first | exact mH | apply mT | apply mA) rfl rfl ?_)
    (first | refine xoN ?_ | refine xo_len T_ rfl rfl rfl rfl ?_)
    (first | refine xoN ?_ | refine xo_gtr rfl rfl rfl rfl ?_)
    first | refine xo_pickT rfl rfl rfl rfl ?_ | refine xo_pickF rfl rfl rfl rfl ?_
    refine xo_as (i := 31) rfl (congrArg Value.bool h4) ?_
    with_reducible (apply xo_nil; (repeat first | apply xqT | apply xqB | apply xqS); (repeat apply xc_seq))
    refine xc_condT rfl ?_
    with_reducible ((repeat apply xc_seq); apply xcR)
    refine xoA ?_
    with_reducible (apply xo_nil; (repeat first | apply xqT | apply xqB | apply xqS); (repeat apply xc_seq); apply xc_ret; (repeat (first | apply xq_thenR | apply xq_blockR | apply xq_scopeR)))
    exact xq_ret1 rfl rfl fun w' hw => ⟨by rw [check_no (by exact hn)], hw.kx.below⟩
  with_reducible ((repeat apply xc_seq); apply xcR)
  refine xo_fa T_ rfl rfl rfl rfl rfl ?_
  refine xo_load0 T_ rfl rfl rfl (by repeat first | exact mH | apply mT | apply mA) rfl rfl ?_
  refine xo_bs1 T_ rfl rfl rfl rfl rfl rfl rfl rfl (fun b10 => ?_)
  refine xo_callB (fs := []) (cs := []) rfl rfl rfl in_enters rfl (fun w1 hw1 => in_calls hw1 1 6 R (by repeat first | exact mH | apply mT | apply mA)) ?_
  refine xo_as (i := 11) rfl (congrArg Value.bool h1) ?_
  refine xo_notOp rfl rfl rfl ?_
  refine xoM ?_
  (first | refine xoN ?_ | refine xo_fa T_ rfl rfl rfl rfl rfl ?_)
  (first | refine xoN ?_ | refine xo_load0 T_ rfl rfl rfl (by repeat first | exact mH | apply mT | apply mA) rfl rfl ?_)
  (first | refine xoN ?_ | refine xo_bs1 T_ rfl rfl rfl rfl rfl rfl rfl rfl (fun b16 => ?_))
  (first | refine xoN ?_ | refine xo_callB (fs := []) (cs := []) rfl rfl rfl in_enters rfl (fun w1 hw1 => in_calls hw1 0 600 E (by repeat first | exact mH | apply mT | apply mA)) ?_)
  refine xo_as (i := 17) rfl (congrArg Value.bool h2) ?_
  (first | refine xoN ?_ | refine xo_notOp rfl rfl rfl ?_)
  first | refine xo_pickT rfl rfl rfl rfl ?_ | refine xo_pickF rfl rfl rfl rfl ?_
  refine xoM ?_
  (first | refine xoN ?_ | refine xo_fa T_ rfl rfl rfl rfl rfl ?_)
  (first | refine xoN ?_ | refine xo_load0 T_ rfl rfl rfl (by repeat first | exact mH | apply mT | apply mA) rfl rfl ?_)
  (first | refine xoN ?_ | refine xo_len T_ rfl rfl rfl rfl ?_)
  (first | refine xoN ?_ | refine xo_gtr rfl rfl rfl rfl ?_)
  refine xo_as (i := 24) rfl (congrArg Value.bool h3) ?_
  first | refine xo_pickT rfl rfl rfl rfl ?_ | refine xo_pickF rfl rfl rfl rfl ?_
  refine xoM ?_
  (first | refine xoN ?_ | refine xo_fa T_ rfl rfl rfl rfl rfl ?_)
  (first | refine xoN ?_ | refine xo_load0 T_ rfl rfl rfl (by repeat first | exact mH | apply mT | apply mA) rfl rfl ?_)
  (first | refine xoN ?_ | refine xo_len T_ rfl rfl rfl rfl ?_)
  (first | refine xoN ?_ | refine xo_gtr rfl rfl rfl rfl ?_)
  first | refine xo_pickT rfl rfl rfl rfl ?_ | refine xo_pickF rfl rfl rfl rfl ?_
  refine xo_as (i := 31) rfl (congrArg Value.bool h4) ?_
  with_reducible (apply xo_nil; (repeat first | apply xqT | apply xqB | apply xqS))
  have hR := inF_iff.1 h1
  have hE := inF_iff.1 h2
  have hg6 : gs.length ≤ 6 := by have := of_decide_eq_false h3; omega
  have hm8 : ms.length ≤ 8 := by have := of_decide_eq_false h4; omega
  have hsc : sceneF R E gs ms = (gs.all (gateF R) && marksF R (-1) ms) := by simp [sceneF, h1, h2, hg6, hm8]
  with_reducible (repeat apply xc_seq)
  refine xc_condF rfl ?_
  with_reducible (apply xc_skip; (repeat first | apply xqT | apply xqB | apply xqS); (repeat apply xc_seq); apply xcR)
  refine xo_fa T_ rfl rfl rfl rfl rfl ?_
  refine xo_load0 T_ rfl rfl rfl (by repeat first | exact mH | apply mT | apply mA) rfl rfl ?_
  refine xo_len T_ rfl rfl rfl rfl ?_
  refine xoM ?_
  with_reducible (apply xo_nil; (repeat first | apply xqT | apply xqB | apply xqS); (repeat apply xc_seq); apply xc_block)
  · refine xc_loop (γ := Nat) (fun k => k ≤ gs.length ∧ ∀ j, j < k → gateF R (gs.getD j zGat) = true) (fun k => [(1, .pointer (some ⟨b1, 0, none⟩)), (2, .int .i64 0), (33, .slice A gs.length c), (34, .int .i64 (gs.length : Int)), (35, .int .i64 (k : Int))])
      (fun _ => [(b1, true, cel (scnV R A gs.length c E B ms.length c2) 25)]) (fun k => gs.length - k) 0 ⟨Nat.zero_le _, fun j hj => absurd hj (Nat.not_lt_zero _)⟩ ⟨rfl, rfl, rfl, rfl, rfl, trivial⟩ (by repeat (first | exact List.Sublist.refl _ | apply List.Sublist.cons_cons | apply List.Sublist.cons | exact List.nil_sublist _)) ?_
    rintro k ⟨hkl, hok⟩
    with_reducible ((repeat apply xc_seq); apply xcR)
    refine xo_lss rfl rfl rfl rfl ?_
    with_reducible (apply xo_nil; (repeat first | apply xqT | apply xqB | apply xqS); (repeat apply xc_seq))
    refine xc_cond rfl (fun h => ?_) (fun h => ?_)
    · have hlt : k < gs.length := by have := of_decide_eq_true h; omega
      obtain ⟨ad, rfl, rg⟩ := gat_at hA k hlt
      have hno : ∀ (q : gateF R (gs.getD k zGat) = false), sceneF R E gs ms = false := fun q => by
        rw [hsc]
        have : gs.all (gateF R) = false := List.all_eq_false.2 ⟨_, getD_mem gs zGat k hlt, by rw [q]; decide⟩
        rw [this]; rfl
      have hnext : gateF R (gs.getD k zGat) = true → ∀ j, j < k + 1 → gateF R (gs.getD j zGat) = true := fun q j hj => by
        by_cases e : j = k
        · subst e; exact q
        · exact hok j (by omega)
      generalize gs.getD k zGat = g at rg hno hnext
      with_reducible (apply xc_skip; (repeat first | apply xqT | apply xqB | apply xqS); (repeat apply xc_seq); apply xc_block; (repeat apply xc_seq); apply xcR)
      refine xo_ia T_ rfl rfl rfl rfl rfl ⟨by omega, by omega⟩ rfl ?_
      refine xo_loadRN T_ rfl rfl rfl (by assumption) rfl rfl ?_
      refine xo_alloc T_ rfl rfl rfl rfl (fun b4 => ?_)
      refine xo_store T_ rfl rfl rfl rfl (by repeat first | exact mH | apply mT | apply mA) rfl rfl rfl rfl (by repeat first | exact Upd.head | apply Upd.tail | apply Upd.app) rfl ?_
      with_reducible (apply xo_nil; (repeat first | apply xqT | apply xqB | apply xqS))
      have hgf : gateF R g = ((inF 0 (R - 1) g.f0 && inF 0 (R - 1) g.f1) && !decide (g.f0 = g.f1) && ordF 0 60 g.f2 && !decide (g.f2.f0 + 2 < g.f2.f1)) := by
        have : decide (g.f2.f1 ≤ g.f2.f0 + 2) = !decide (g.f2.f0 + 2 < g.f2.f1) := by rw [Bool.eq_iff_iff]; simp
        unfold gateF ordF
        rw [this]
      cases g1 : (inF 0 (R - 1) g.f0 && inF 0 (R - 1) g.f1)
      · have hn := hno (by rw [hgf, g1]; rfl)
        with_reducible ((repeat apply xc_seq); apply xcR)
        refine xo_fa T_ rfl rfl rfl rfl rfl ?_
        refine xo_load0 T_ rfl rfl rfl (by repeat first | exact mH | apply mT | apply mA) rfl rfl ?_
        refine xo_sub rfl rfl rfl (by omega) rfl ?_
        refine xo_fa T_ rfl rfl rfl rfl rfl ?_
        refine xo_load0 T_ rfl rfl rfl (by repeat first | exact mH | apply mT | apply mA) rfl rfl ?_
        refine xo_fa T_ rfl rfl rfl rfl rfl ?_
        refine xo_load0 T_ rfl rfl rfl (by repeat first | exact mH | apply mT | apply mA) rfl rfl ?_
        refine xo_bs2 T_ rfl rfl rfl rfl rfl rfl rfl rfl rfl rfl (fun b46 => ?_)
        refine xo_callB (fs := []) (cs := []) rfl rfl rfl in_enters rfl (fun w1 hw1 => in2_calls hw1 0 (R - 1) g.f0 g.f1 (by repeat first | exact mH | apply mT | apply mA)) ?_
        refine xo_as (i := 47) rfl (congrArg Value.bool g1) ?_
        refine xo_notOp rfl rfl rfl ?_
        refine xoM ?_
        (first | refine xoN ?_ | refine xo_fa T_ rfl rfl rfl rfl rfl ?_)
        (first | refine xoN ?_ | refine xo_load0 T_ rfl rfl rfl (by repeat first | exact mH | apply mT | apply mA) rfl rfl ?_)
        (first | refine xoN ?_ | refine xo_fa T_ rfl rfl rfl rfl rfl ?_)
        (first | refine xoN ?_ | refine xo_load0 T_ rfl rfl rfl (by repeat first | exact mH | apply mT | apply mA) rfl rfl ?_)
        (first | refine xoN ?_ | refine xo_eql rfl rfl rfl rfl ?_)
        first | refine xo_pickT rfl rfl rfl rfl ?_ | refine xo_pickF rfl rfl rfl rfl ?_
        refine xoM ?_
        (first | refine xoN ?_ | refine xo_fa T_ rfl rfl rfl rfl rfl ?_)
        (first | refine xoN ?_ | refine xo_loadN T_ rfl rfl rfl (by repeat first | exact mH | apply mT | apply mA) rfl rfl ?_)
        (first | refine xoN ?_ | refine xo_callB (fs := []) (cs := []) rfl rfl rfl ordered_enters rfl (fun w1 hw1 => ordered_calls 0 60 g.f2 w1) ?_)
        (first | refine xoN ?_ | refine xo_notOp rfl rfl rfl ?_)
        first | refine xo_pickT rfl rfl rfl rfl ?_ | refine xo_pickF rfl rfl rfl rfl ?_
        refine xoM ?_
        (first | refine xoN ?_ | refine xo_fa T_ rfl rfl rfl rfl rfl ?_)
        (first | refine xoN ?_ | refine xo_fa T_ rfl rfl rfl rfl rfl ?_)
        (first | refine xoN ?_ | refine xo_load0 T_ rfl rfl rfl (by repeat first | exact mH | apply mT | apply mA) rfl rfl ?_)
        (first | refine xoN ?_ | refine xo_fa T_ rfl rfl rfl rfl rfl ?_)
        (first | refine xoN ?_ | refine xo_fa T_ rfl rfl rfl rfl rfl ?_)
        (first | refine xoN ?_ | refine xo_load0 T_ rfl rfl rfl (by repeat first | exact mH | apply mT | apply mA) rfl rfl ?_)
        (first | refine xoN ?_ | refine xo_add rfl rfl rfl (by omega) rfl ?_)
        (first | refine xoN ?_ | refine xo_gtr rfl rfl rfl rfl ?_)
        first | refine xo_pickT rfl rfl rfl rfl ?_ | refine xo_pickF rfl rfl rfl rfl ?_
        with_reducible (apply xo_nil; (repeat first | apply xqT | apply xqB | apply xqS); (repeat apply xc_seq))
        refine xc_condT rfl ?_
        with_reducible ((repeat apply xc_seq); apply xcR)
        refine xoA ?_
        with_reducible (apply xo_nil; (repeat first | apply xqT | apply xqB | apply xqS); (repeat apply xc_seq); apply xc_ret; (repeat (first | apply xq_thenR | apply xq_blockR | apply xq_scopeR)))
        exact xq_ret1 rfl rfl fun w' hw => ⟨by rw [check_no (by exact hn)], hw.kx.below⟩
      cases g2 : decide (g.f0 = g.f1)
      rotate_left
      · have hn := hno (by rw [hgf, g1, g2]; rfl)
        with_reducible ((repeat apply xc_seq); apply xcR)
        refine xo_fa T_ rfl rfl rfl rfl rfl ?_
        refine xo_load0 T_ rfl rfl rfl (by repeat first | exact mH | apply mT | apply mA) rfl rfl ?_
        refine xo_sub rfl rfl rfl (by omega) rfl ?_
        refine xo_fa T_ rfl rfl rfl rfl rfl ?_
        refine xo_load0 T_ rfl rfl rfl (by repeat first | exact mH | apply mT | apply mA) rfl rfl ?_
        refine xo_fa T_ rfl rfl rfl rfl rfl ?_
        refine xo_load0 T_ rfl rfl rfl (by repeat first | exact mH | apply mT | apply mA) rfl rfl ?_
        refine xo_bs2 T_ rfl rfl rfl rfl rfl rfl rfl rfl rfl rfl (fun b46 => ?_)
        refine xo_callB (fs := []) (cs := []) rfl rfl rfl in_enters rfl (fun w1 hw1 => in2_calls hw1 0 (R - 1) g.f0 g.f1 (by repeat first | exact mH | apply mT | apply mA)) ?_
        refine xo_as (i := 47) rfl (congrArg Value.bool g1) ?_
        refine xo_notOp rfl rfl rfl ?_
        refine xoM ?_
        (first | refine xoN ?_ | refine xo_fa T_ rfl rfl rfl rfl rfl ?_)
        (first | refine xoN ?_ | refine xo_load0 T_ rfl rfl rfl (by repeat first | exact mH | apply mT | apply mA) rfl rfl ?_)
        (first | refine xoN ?_ | refine xo_fa T_ rfl rfl rfl rfl rfl ?_)
        (first | refine xoN ?_ | refine xo_load0 T_ rfl rfl rfl (by repeat first | exact mH | apply mT | apply mA) rfl rfl ?_)
        (first | refine xoN ?_ | refine xo_eql rfl rfl rfl rfl ?_)
        refine xo_as (i := 54) rfl (congrArg Value.bool g2) ?_
        first | refine xo_pickT rfl rfl rfl rfl ?_ | refine xo_pickF rfl rfl rfl rfl ?_
        refine xoM ?_
        (first | refine xoN ?_ | refine xo_fa T_ rfl rfl rfl rfl rfl ?_)
        (first | refine xoN ?_ | refine xo_loadN T_ rfl rfl rfl (by repeat first | exact mH | apply mT | apply mA) rfl rfl ?_)
        (first | refine xoN ?_ | refine xo_callB (fs := []) (cs := []) rfl rfl rfl ordered_enters rfl (fun w1 hw1 => ordered_calls 0 60 g.f2 w1) ?_)
        (first | refine xoN ?_ | refine xo_notOp rfl rfl rfl ?_)
        first | refine xo_pickT rfl rfl rfl rfl ?_ | refine xo_pickF rfl rfl rfl rfl ?_
        refine xoM ?_
        (first | refine xoN ?_ | refine xo_fa T_ rfl rfl rfl rfl rfl ?_)
        (first | refine xoN ?_ | refine xo_fa T_ rfl rfl rfl rfl rfl ?_)
        (first | refine xoN ?_ | refine xo_load0 T_ rfl rfl rfl (by repeat first | exact mH | apply mT | apply mA) rfl rfl ?_)
        (first | refine xoN ?_ | refine xo_fa T_ rfl rfl rfl rfl rfl ?_)
        (first | refine xoN ?_ | refine xo_fa T_ rfl rfl rfl rfl rfl ?_)
        (first | refine xoN ?_ | refine xo_load0 T_ rfl rfl rfl (by repeat first | exact mH | apply mT | apply mA) rfl rfl ?_)
        (first | refine xoN ?_ | refine xo_add rfl rfl rfl (by omega) rfl ?_)
        (first | refine xoN ?_ | refine xo_gtr rfl rfl rfl rfl ?_)
        first | refine xo_pickT rfl rfl rfl rfl ?_ | refine xo_pickF rfl rfl rfl rfl ?_
        with_reducible (apply xo_nil; (repeat first | apply xqT | apply xqB | apply xqS); (repeat apply xc_seq))
        refine xc_condT rfl ?_
        with_reducible ((repeat apply xc_seq); apply xcR)
        refine xoA ?_
        with_reducible (apply xo_nil; (repeat first | apply xqT | apply xqB | apply xqS); (repeat apply xc_seq); apply xc_ret; (repeat (first | apply xq_thenR | apply xq_blockR | apply xq_scopeR)))
        exact xq_ret1 rfl rfl fun w' hw => ⟨by rw [check_no (by exact hn)], hw.kx.below⟩
      cases g3 : ordF 0 60 g.f2
      · have hn := hno (by rw [hgf, g1, g2, g3]; rfl)
        with_reducible ((repeat apply xc_seq); apply xcR)
        refine xo_fa T_ rfl rfl rfl rfl rfl ?_
        refine xo_load0 T_ rfl rfl rfl (by repeat first | exact mH | apply mT | apply mA) rfl rfl ?_
        refine xo_sub rfl rfl rfl (by omega) rfl ?_
        refine xo_fa T_ rfl rfl rfl rfl rfl ?_
        refine xo_load0 T_ rfl rfl rfl (by repeat first | exact mH | apply mT | apply mA) rfl rfl ?_
        refine xo_fa T_ rfl rfl rfl rfl rfl ?_
        refine xo_load0 T_ rfl rfl rfl (by repeat first | exact mH | apply mT | apply mA) rfl rfl ?_
        refine xo_bs2 T_ rfl rfl rfl rfl rfl rfl rfl rfl rfl rfl (fun b46 => ?_)
        refine xo_callB (fs := []) (cs := []) rfl rfl rfl in_enters rfl (fun w1 hw1 => in2_calls hw1 0 (R - 1) g.f0 g.f1 (by repeat first | exact mH | apply mT | apply mA)) ?_
        refine xo_as (i := 47) rfl (congrArg Value.bool g1) ?_
        refine xo_notOp rfl rfl rfl ?_
        refine xoM ?_
        (first | refine xoN ?_ | refine xo_fa T_ rfl rfl rfl rfl rfl ?_)
        (first | refine xoN ?_ | refine xo_load0 T_ rfl rfl rfl (by repeat first | exact mH | apply mT | apply mA) rfl rfl ?_)
        (first | refine xoN ?_ | refine xo_fa T_ rfl rfl rfl rfl rfl ?_)
        (first | refine xoN ?_ | refine xo_load0 T_ rfl rfl rfl (by repeat first | exact mH | apply mT | apply mA) rfl rfl ?_)
        (first | refine xoN ?_ | refine xo_eql rfl rfl rfl rfl ?_)
        refine xo_as (i := 54) rfl (congrArg Value.bool g2) ?_
        first | refine xo_pickT rfl rfl rfl rfl ?_ | refine xo_pickF rfl rfl rfl rfl ?_
        refine xoM ?_
        (first | refine xoN ?_ | refine xo_fa T_ rfl rfl rfl rfl rfl ?_)
        (first | refine xoN ?_ | refine xo_loadN T_ rfl rfl rfl (by repeat first | exact mH | apply mT | apply mA) rfl rfl ?_)
        (first | refine xoN ?_ | refine xo_callB (fs := []) (cs := []) rfl rfl rfl ordered_enters rfl (fun w1 hw1 => ordered_calls 0 60 g.f2 w1) ?_)
        refine xo_as (i := 59) rfl (congrArg Value.bool g3) ?_
        (first | refine xoN ?_ | refine xo_notOp rfl rfl rfl ?_)
        first | refine xo_pickT rfl rfl rfl rfl ?_ | refine xo_pickF rfl rfl rfl rfl ?_
        refine xoM ?_
        (first | refine xoN ?_ | refine xo_fa T_ rfl rfl rfl rfl rfl ?_)
        (first | refine xoN ?_ | refine xo_fa T_ rfl rfl rfl rfl rfl ?_)
        (first | refine xoN ?_ | refine xo_load0 T_ rfl rfl rfl (by repeat first | exact mH | apply mT | apply mA) rfl rfl ?_)
        (first | refine xoN ?_ | refine xo_fa T_ rfl rfl rfl rfl rfl ?_)
        (first | refine xoN ?_ | refine xo_fa T_ rfl rfl rfl rfl rfl ?_)
        (first | refine xoN ?_ | refine xo_load0 T_ rfl rfl rfl (by repeat first | exact mH | apply mT | apply mA) rfl rfl ?_)
        (first | refine xoN ?_ | refine xo_add rfl rfl rfl (by omega) rfl ?_)
        (first | refine xoN ?_ | refine xo_gtr rfl rfl rfl rfl ?_)
        first | refine xo_pickT rfl rfl rfl rfl ?_ | refine xo_pickF rfl rfl rfl rfl ?_
        with_reducible (apply xo_nil; (repeat first | apply xqT | apply xqB | apply xqS); (repeat apply xc_seq))
        refine xc_condT rfl ?_
        with_reducible ((repeat apply xc_seq); apply xcR)
        refine xoA ?_
        with_reducible (apply xo_nil; (repeat first | apply xqT | apply xqB | apply xqS); (repeat apply xc_seq); apply xc_ret; (repeat (first | apply xq_thenR | apply xq_blockR | apply xq_scopeR)))
        exact xq_ret1 rfl rfl fun w' hw => ⟨by rw [check_no (by exact hn)], hw.kx.below⟩
      have g3b : 0 ≤ g.f2.f0 ∧ g.f2.f0 ≤ 60 := by
        unfold ordF at g3
        simp only [Bool.and_eq_true] at g3
        exact inF_iff.1 g3.1.1
      cases g4 : decide (g.f2.f0 + 2 < g.f2.f1)
      rotate_left
      · have hn := hno (by rw [hgf, g1, g2, g3, g4]; rfl)
        with_reducible ((repeat apply xc_seq); apply xcR)
        refine xo_fa T_ rfl rfl rfl rfl rfl ?_
        refine xo_load0 T_ rfl rfl rfl (by repeat first | exact mH | apply mT | apply mA) rfl rfl ?_
        refine xo_sub rfl rfl rfl (by omega) rfl ?_
        refine xo_fa T_ rfl rfl rfl rfl rfl ?_
        refine xo_load0 T_ rfl rfl rfl (by repeat first | exact mH | apply mT | apply mA) rfl rfl ?_
        refine xo_fa T_ rfl rfl rfl rfl rfl ?_
        refine xo_load0 T_ rfl rfl rfl (by repeat first | exact mH | apply mT | apply mA) rfl rfl ?_
        refine xo_bs2 T_ rfl rfl rfl rfl rfl rfl rfl rfl rfl rfl (fun b46 => ?_)
        refine xo_callB (fs := []) (cs := []) rfl rfl rfl in_enters rfl (fun w1 hw1 => in2_calls hw1 0 (R - 1) g.f0 g.f1 (by repeat first | exact mH | apply mT | apply mA)) ?_
        refine xo_as (i := 47) rfl (congrArg Value.bool g1) ?_
        refine xo_notOp rfl rfl rfl ?_
        refine xoM ?_
        (first | refine xoN ?_ | refine xo_fa T_ rfl rfl rfl rfl rfl ?_)
        (first | refine xoN ?_ | refine xo_load0 T_ rfl rfl rfl (by repeat first | exact mH | apply mT | apply mA) rfl rfl ?_)
        (first | refine xoN ?_ | refine xo_fa T_ rfl rfl rfl rfl rfl ?_)
        (first | refine xoN ?_ | refine xo_load0 T_ rfl rfl rfl (by repeat first | exact mH | apply mT | apply mA) rfl rfl ?_)
        (first | refine xoN ?_ | refine xo_eql rfl rfl rfl rfl ?_)
        refine xo_as (i := 54) rfl (congrArg Value.bool g2) ?_
        first | refine xo_pickT rfl rfl rfl rfl ?_ | refine xo_pickF rfl rfl rfl rfl ?_
        refine xoM ?_
        (first | refine xoN ?_ | refine xo_fa T_ rfl rfl rfl rfl rfl ?_)
        (first | refine xoN ?_ | refine xo_loadN T_ rfl rfl rfl (by repeat first | exact mH | apply mT | apply mA) rfl rfl ?_)
        (first | refine xoN ?_ | refine xo_callB (fs := []) (cs := []) rfl rfl rfl ordered_enters rfl (fun w1 hw1 => ordered_calls 0 60 g.f2 w1) ?_)
        refine xo_as (i := 59) rfl (congrArg Value.bool g3) ?_
        (first | refine xoN ?_ | refine xo_notOp rfl rfl rfl ?_)
        first | refine xo_pickT rfl rfl rfl rfl ?_ | refine xo_pickF rfl rfl rfl rfl ?_
        refine xoM ?_
        (first | refine xoN ?_ | refine xo_fa T_ rfl rfl rfl rfl rfl ?_)
        (first | refine xoN ?_ | refine xo_fa T_ rfl rfl rfl rfl rfl ?_)
        (first | refine xoN ?_ | refine xo_load0 T_ rfl rfl rfl (by repeat first | exact mH | apply mT | apply mA) rfl rfl ?_)
        (first | refine xoN ?_ | refine xo_fa T_ rfl rfl rfl rfl rfl ?_)
        (first | refine xoN ?_ | refine xo_fa T_ rfl rfl rfl rfl rfl ?_)
        (first | refine xoN ?_ | refine xo_load0 T_ rfl rfl rfl (by repeat first | exact mH | apply mT | apply mA) rfl rfl ?_)
        (first | refine xoN ?_ | refine xo_add rfl rfl rfl (by omega) rfl ?_)
        (first | refine xoN ?_ | refine xo_gtr rfl rfl rfl rfl ?_)
        first | refine xo_pickT rfl rfl rfl rfl ?_ | refine xo_pickF rfl rfl rfl rfl ?_
        refine xo_as (i := 71) rfl (congrArg Value.bool g4) ?_
        with_reducible (apply xo_nil; (repeat first | apply xqT | apply xqB | apply xqS); (repeat apply xc_seq))
        refine xc_condT rfl ?_
        with_reducible ((repeat apply xc_seq); apply xcR)
        refine xoA ?_
        with_reducible (apply xo_nil; (repeat first | apply xqT | apply xqB | apply xqS); (repeat apply xc_seq); apply xc_ret; (repeat (first | apply xq_thenR | apply xq_blockR | apply xq_scopeR)))
        exact xq_ret1 rfl rfl fun w' hw => ⟨by rw [check_no (by exact hn)], hw.kx.below⟩
      with_reducible ((repeat apply xc_seq); apply xcR)
      refine xo_fa T_ rfl rfl rfl rfl rfl ?_
      refine xo_load0 T_ rfl rfl rfl (by repeat first | exact mH | apply mT | apply mA) rfl rfl ?_
      refine xo_sub rfl rfl rfl (by omega) rfl ?_
      refine xo_fa T_ rfl rfl rfl rfl rfl ?_
      refine xo_load0 T_ rfl rfl rfl (by repeat first | exact mH | apply mT | apply mA) rfl rfl ?_
      refine xo_fa T_ rfl rfl rfl rfl rfl ?_
      refine xo_load0 T_ rfl rfl rfl (by repeat first | exact mH | apply mT | apply mA) rfl rfl ?_
      refine xo_bs2 T_ rfl rfl rfl rfl rfl rfl rfl rfl rfl rfl (fun b46 => ?_)
      refine xo_callB (fs := []) (cs := []) rfl rfl rfl in_enters rfl (fun w1 hw1 => in2_calls hw1 0 (R - 1) g.f0 g.f1 (by repeat first | exact mH | apply mT | apply mA)) ?_
      refine xo_as (i := 47) rfl (congrArg Value.bool g1) ?_
      refine xo_notOp rfl rfl rfl ?_
      refine xoM ?_
      (first | refine xoN ?_ | refine xo_fa T_ rfl rfl rfl rfl rfl ?_)
      (first | refine xoN ?_ | refine xo_load0 T_ rfl rfl rfl (by repeat first | exact mH | apply mT | apply mA) rfl rfl ?_)
      (first | refine xoN ?_ | refine xo_fa T_ rfl rfl rfl rfl rfl ?_)
      (first | refine xoN ?_ | refine xo_load0 T_ rfl rfl rfl (by repeat first | exact mH | apply mT | apply mA) rfl rfl ?_)
      (first | refine xoN ?_ | refine xo_eql rfl rfl rfl rfl ?_)
      refine xo_as (i := 54) rfl (congrArg Value.bool g2) ?_
      first | refine xo_pickT rfl rfl rfl rfl ?_ | refine xo_pickF rfl rfl rfl rfl ?_
      refine xoM ?_
      (first | refine xoN ?_ | refine xo_fa T_ rfl rfl rfl rfl rfl ?_)
      (first | refine xoN ?_ | refine xo_loadN T_ rfl rfl rfl (by repeat first | exact mH | apply mT | apply mA) rfl rfl ?_)
      (first | refine xoN ?_ | refine xo_callB (fs := []) (cs := []) rfl rfl rfl ordered_enters rfl (fun w1 hw1 => ordered_calls 0 60 g.f2 w1) ?_)
      refine xo_as (i := 59) rfl (congrArg Value.bool g3) ?_
      (first | refine xoN ?_ | refine xo_notOp rfl rfl rfl ?_)
      first | refine xo_pickT rfl rfl rfl rfl ?_ | refine xo_pickF rfl rfl rfl rfl ?_
      refine xoM ?_
      (first | refine xoN ?_ | refine xo_fa T_ rfl rfl rfl rfl rfl ?_)
      (first | refine xoN ?_ | refine xo_fa T_ rfl rfl rfl rfl rfl ?_)
      (first | refine xoN ?_ | refine xo_load0 T_ rfl rfl rfl (by repeat first | exact mH | apply mT | apply mA) rfl rfl ?_)
      (first | refine xoN ?_ | refine xo_fa T_ rfl rfl rfl rfl rfl ?_)
      (first | refine xoN ?_ | refine xo_fa T_ rfl rfl rfl rfl rfl ?_)
      (first | refine xoN ?_ | refine xo_load0 T_ rfl rfl rfl (by repeat first | exact mH | apply mT | apply mA) rfl rfl ?_)
      (first | refine xoN ?_ | refine xo_add rfl rfl rfl (by omega) rfl ?_)
      (first | refine xoN ?_ | refine xo_gtr rfl rfl rfl rfl ?_)
      first | refine xo_pickT rfl rfl rfl rfl ?_ | refine xo_pickF rfl rfl rfl rfl ?_
      refine xo_as (i := 71) rfl (congrArg Value.bool g4) ?_
      with_reducible (apply xo_nil; (repeat first | apply xqT | apply xqB | apply xqS); (repeat apply xc_seq))
      refine xc_condF rfl ?_
      with_reducible (apply xc_skip; (repeat first | apply xqT | apply xqB | apply xqS); (repeat apply xc_seq); apply xcR)
      refine xo_add rfl rfl rfl (by omega) rfl ?_
      refine xoM ?_
      with_reducible (apply xo_nil; (repeat first | apply xqT | apply xqB | apply xqS))
      exact xq_again _ _ _ _ _ (k + 1) ⟨by omega, hnext (by rw [hgf, g1, g2, g3, g4]; rfl)⟩ (by omega) ⟨rfl, rfl, rfl, rfl, rfl, trivial⟩ (by repeat (first | exact List.Sublist.refl _ | apply List.Sublist.cons_cons | apply List.Sublist.cons | exact List.nil_sublist _))
    · have hge : ¬ k < gs.length := by have := of_decide_eq_false h; omega
      with_reducible (apply xc_exit; (repeat (first | apply xq_blockX | apply xq_thenE | refine xq_blockE rfl ?_ | apply xq_scopeE)); (repeat first | apply xqT | apply xqB | apply xqS))
      have hall : gs.all (gateF R) = true := by
        refine List.all_eq_true.2 fun g hg => ?_
        obtain ⟨j, hj, e⟩ := List.getElem_of_mem hg
        have := hok j (by omega)
        rw [List.getD_eq_getElem?_getD, List.getElem?_eq_getElem hj] at this
        rw [← e]
        exact this
      rw [hall, Bool.true_and] at hsc
      with_reducible ((repeat apply xc_seq); apply xcR)
      refine xoA ?_
      with_reducible (apply xo_nil; (repeat first | apply xqT | apply xqB | apply xqS); (repeat apply xc_seq); apply xcR)
      refine xo_fa T_ rfl rfl rfl rfl rfl ?_
      refine xo_load0 T_ rfl rfl rfl (by repeat first | exact mH | apply mT | apply mA) rfl rfl ?_
      refine xo_len T_ rfl rfl rfl rfl ?_
      refine xoM ?_
      with_reducible (apply xo_nil; (repeat first | apply xqT | apply xqB | apply xqS); (repeat apply xc_seq); apply xc_block)
      refine xc_loop (γ := Nat) (fun k => k ≤ ms.length ∧ (-1 ≤ lastF ms k ∧ lastF ms k ≤ 9999) ∧ marksF R (-1) ms = marksF R (lastF ms k) (ms.drop k)) (fun k => [(1, .pointer (some ⟨b1, 0, none⟩)), (2, .int .i64 0), (5, .int .i64 (lastF ms k)), (74, .slice B ms.length c2), (75, .int .i64 (ms.length : Int)), (76, .int .i64 (k : Int))])
        (fun _ => [(b1, true, cel (scnV R A gs.length c E B ms.length c2) 25)]) (fun k => ms.length - k) 0 ⟨Nat.zero_le _, by simp [lastF], by simp [lastF]⟩ ⟨rfl, rfl, rfl, rfl, rfl, rfl, trivial⟩ (by repeat (first | exact List.Sublist.refl _ | apply List.Sublist.cons_cons | apply List.Sublist.cons | exact List.nil_sublist _)) ?_
      rintro k ⟨hkl, ⟨hl1, hl2⟩, hmk⟩
      with_reducible ((repeat apply xc_seq); apply xcR)
      refine xo_lss rfl rfl rfl rfl ?_
      with_reducible (apply xo_nil; (repeat first | apply xqT | apply xqB | apply xqS); (repeat apply xc_seq))
      refine xc_cond rfl (fun h => ?_) (fun h => ?_)
      · have hlt : k < ms.length := by have := of_decide_eq_true h; omega
        obtain ⟨ad, rfl, rg⟩ := mar_at hB k hlt
        have hby := hk _ (getD_mem ms zMar k hlt)
        rw [drop_at ms zMar k hlt, marksF] at hmk
        have hls := lastF_succ ms k
        generalize ms.getD k zMar = m at rg hby hmk hls
        with_reducible (apply xc_skip; (repeat first | apply xqT | apply xqB | apply xqS); (repeat apply xc_seq); apply xc_block; (repeat apply xc_seq); apply xcR)
        refine xo_ia T_ rfl rfl rfl rfl rfl ⟨by omega, by omega⟩ rfl ?_
        refine xo_loadRN T_ rfl rfl rfl (by assumption) rfl rfl ?_
        refine xo_alloc T_ rfl rfl rfl rfl (fun b7 => ?_)
        refine xo_store T_ rfl rfl rfl rfl (by repeat first | exact mH | apply mT | apply mA) rfl rfl rfl rfl (by repeat first | exact Upd.head | apply Upd.tail | apply Upd.app) rfl ?_
        with_reducible (apply xo_nil; (repeat first | apply xqT | apply xqB | apply xqS))
        generalize lastF ms k = last at hl1 hl2 hmk
        cases m1 : inF (last + 1) 9999 m.f0
        · have hn : sceneF R E gs ms = false := by rw [hsc, hmk, m1]; simp
          with_reducible (repeat apply xc_seq)
          apply xc_drawE (fun g => [(4, .slice (some ⟨(g.getD 0 gv0).b, 0, none⟩) 1 1)]) (fun (η0 : Hp) g => match g with | [] => (η0) | a0 :: _ => ((a0.b, true, cel [.int .i64 m.f0] 3) :: η0)) (fun _ => True) [0, 0, 0, 0, 1, 1, 1, 1, 1, 1, 1, 1, 1, 1, 1, 1, 1, 1, 1, 1, 1, 1, 1, 1, 1, 1, 1, 1, 1, 1, 1, 1, 1, 1, 1, 1] [4] [[3]] (by trivial)
          apply SameLen.cons
          apply SameLen.cons
          apply SameLen.cons
          apply SameLen.cons
          apply SameLen.cons (c := undef)
          apply SameLen.cons
          apply SameLen.cons
          apply SameLen.cons
          apply SameLen.cons
          apply SameLen.cons
          apply SameLen.cons
          apply SameLen.cons
          apply SameLen.cons
          apply SameLen.cons
          apply SameLen.cons
          apply SameLen.cons
          apply SameLen.cons
          apply SameLen.cons
          apply SameLen.cons
          apply SameLen.cons
          apply SameLen.cons
          apply SameLen.cons
          apply SameLen.cons
          apply SameLen.cons
          apply SameLen.cons
          apply SameLen.cons
          apply SameLen.cons
          apply SameLen.cons
          apply SameLen.cons
          apply SameLen.cons
          apply SameLen.cons
          apply SameLen.cons
          apply SameLen.cons
          apply SameLen.cons
          apply SameLen.cons
          apply SameLen.cons
          exact SameLen.nil
          rotate_left 35
          case hH0 => rfl
          case hmix => exact T_.mixed
          case hbind => rfl
          case hdeps => rfl
          case hdist => rfl
          case hfresh => rfl
          case hE => rfl
          case hEn => decide
          · refine DrawE.pure 0 1 rfl (.inl rfl) (fun L g hg hd => Nat.zero_le _) (fun g hlo hhi hF τ => ?_) ?_
            · rcases g with _ | ⟨a0, _ | ⟨a1, g⟩⟩ <;> first | (simp only [lenC, lenN] at hlo hhi; omega) | (refine ⟨_, rfl, ?_⟩; refine xoM ?_; exact xoF)
            refine DrawE.pure 0 1 rfl (.inl rfl) (fun L g hg hd => Nat.zero_le _) (fun g hlo hhi hF τ => ?_) ?_
            · rcases g with _ | ⟨a0, _ | ⟨a1, g⟩⟩ <;> first | (simp only [lenC, lenN] at hlo hhi; omega) | (refine ⟨_, rfl, ?_⟩; refine xo_add rfl rfl rfl (by omega) rfl ?_; exact xoF)
            refine DrawE.pure 0 1 rfl (.inl rfl) (fun L g hg hd => Nat.zero_le _) (fun g hlo hhi hF τ => ?_) ?_
            · rcases g with _ | ⟨a0, _ | ⟨a1, g⟩⟩ <;> first | (simp only [lenC, lenN] at hlo hhi; omega) | (refine ⟨_, rfl, ?_⟩; refine xo_fa T_ rfl rfl rfl rfl rfl ?_; exact xoF)
            refine DrawE.pure 0 0 rfl (.inr (by decide)) (fun L g hg hd => Nat.zero_le _) (fun g hlo hhi hF τ => ?_) ?_
            · rcases g with _ | ⟨a0, _ | ⟨a1, g⟩⟩ <;> first | (simp only [lenC, lenN] at hlo hhi; omega) | (refine ⟨_, rfl, ?_⟩; refine xo_load0 T_ rfl rfl rfl (by repeat first | exact mH | apply mT | apply mA) rfl rfl ?_; exact xoF)
            refine DrawE.eff 0 rfl (by decide) rfl (fun j hj => hj) (fun j g a hj => ?_) (fun L g hg hd => Nat.zero_le _) (fun g hgl hF τ => ?_) ?_
            · rcases j with _ | _ | _ | _ | _ | _ | _ | _ | _ | _ | _ | _ | _ | _ | _ | _ | _ | _ | _ | _ | _ | _ | _ | _ | _ | _ | _ | _ | _ | _ | _ | _ | _ | _ | _ | _ | j
              all_goals first | rfl | (rcases g with _ | ⟨a0, _ | ⟨a1, g⟩⟩ <;> first | rfl | exact absurd hj (by decide) | exact absurd hj (by simp [List.getD]))
            · obtain rfl : g = [] := by
                rcases g with _ | ⟨a0, g⟩ <;> first | rfl | (exfalso; simp only [List.length_cons, List.length_nil] at hgl; omega)
              refine xo_bs1 T_ rfl rfl rfl rfl rfl rfl rfl rfl (fun b84 => ?_)
              exact xo_finE ⟨b84, 0, none⟩ rfl trivial
            refine DrawE.pure 1 1 rfl (.inl rfl) (fun L g hg hd => hg.2.1 4 (hd 4 (by decide))) (fun g hlo hhi hF τ => ?_) ?_
            · rcases g with _ | ⟨a0, _ | ⟨a1, g⟩⟩
              all_goals first
                | (simp only [lenC, lenN] at hlo hhi; omega)
                | (refine ⟨_, rfl, ?_⟩
                   refine xo_callB (fs := []) (cs := []) rfl rfl rfl in_enters rfl (fun w1 hw1 => in_calls hw1 (last + 1) 9999 m.f0 (by repeat first | exact mH | apply mT | apply mA)) ?_
                   first
                     | exact xo_fin (congrArg Value.bool m1)
                     | exact xoF)
            refine DrawE.pure 1 1 rfl (.inl rfl) (fun L g hg hd => hg.2.1 5 (hd 5 (by decide))) (fun g hlo hhi hF τ => ?_) ?_
            · rcases g with _ | ⟨a0, _ | ⟨a1, g⟩⟩ <;> first | (simp only [lenC, lenN] at hlo hhi; omega) | (refine ⟨_, rfl, ?_⟩; refine xo_notOp rfl rfl rfl ?_; exact xoF)
            refine DrawE.pure 1 1 rfl (.inl rfl) (fun L g hg hd => hg.2.1 6 (hd 6 (by decide))) (fun g hlo hhi hF τ => ?_) ?_
            · rcases g with _ | ⟨a0, _ | ⟨a1, g⟩⟩ <;> first | (simp only [lenC, lenN] at hlo hhi; omega) | (refine ⟨_, rfl, ?_⟩; refine xoM ?_; exact xoF)
            refine DrawE.pure 1 1 rfl (.inl rfl) (fun L g hg hd => hg.2.1 7 (hd 7 (by decide))) (fun g hlo hhi hF τ => ?_) ?_
            · rcases g with _ | ⟨a0, _ | ⟨a1, g⟩⟩ <;> first | (simp only [lenC, lenN] at hlo hhi; omega) | (refine ⟨_, rfl, ?_⟩; (first | refine xoN ?_ | (refine xo_fa T_ rfl rfl rfl rfl rfl ?_)); exact xoF)
            refine DrawE.pure 1 1 rfl (.inl rfl) (fun L g hg hd => hg.2.1 8 (hd 8 (by decide))) (fun g hlo hhi hF τ => ?_) ?_
            · rcases g with _ | ⟨a0, _ | ⟨a1, g⟩⟩ <;> first | (simp only [lenC, lenN] at hlo hhi; omega) | (refine ⟨_, rfl, ?_⟩; (first | refine xoN ?_ | (refine xo_load0 T_ rfl rfl rfl (by repeat first | exact mH | apply mT | apply mA) rfl rfl ?_)); exact xoF)
            refine DrawE.pure 1 1 rfl (.inl rfl) (fun L g hg hd => hg.2.1 9 (hd 9 (by decide))) (fun g hlo hhi hF τ => ?_) ?_
            · rcases g with _ | ⟨a0, _ | ⟨a1, g⟩⟩ <;> first | (simp only [lenC, lenN] at hlo hhi; omega) | (refine ⟨_, rfl, ?_⟩; (first | refine xoN ?_ | (refine xo_sub rfl rfl rfl (by omega) rfl ?_)); exact xoF)
            refine DrawE.pure 1 1 rfl (.inl rfl) (fun L g hg hd => hg.2.1 7 (hd 7 (by decide))) (fun g hlo hhi hF τ => ?_) ?_
            · rcases g with _ | ⟨a0, _ | ⟨a1, g⟩⟩ <;> first | (simp only [lenC, lenN] at hlo hhi; omega) | (refine ⟨_, rfl, ?_⟩; (first | refine xoN ?_ | (refine xo_fa T_ rfl rfl rfl rfl rfl ?_)); exact xoF)
            refine DrawE.pure 1 1 rfl (.inl rfl) (fun L g hg hd => hg.2.1 11 (hd 11 (by decide))) (fun g hlo hhi hF τ => ?_) ?_
            · rcases g with _ | ⟨a0, _ | ⟨a1, g⟩⟩ <;> first | (simp only [lenC, lenN] at hlo hhi; omega) | (refine ⟨_, rfl, ?_⟩; (first | refine xoN ?_ | (refine xo_load0 T_ rfl rfl rfl (by repeat first | exact mH | apply mT | apply mA) rfl rfl ?_)); exact xoF)
            refine DrawE.pure 1 1 rfl (.inl rfl) (fun L g hg hd => hg.2.1 12 (hd 12 (by decide))) (fun g hlo hhi hF τ => ?_) ?_
            · rcases g with _ | ⟨a0, _ | ⟨a1, g⟩⟩ <;> first | (simp only [lenC, lenN] at hlo hhi; omega) | (refine ⟨_, rfl, ?_⟩; (first | refine xoN ?_ | (refine xo_bs1 T_ rfl rfl rfl rfl rfl rfl rfl rfl (fun b93 => ?_))); exact xoF)
            refine DrawE.pure 1 1 rfl (.inl rfl) (fun L g hg hd => hg.2.1 10 (hd 10 (by decide))) (fun g hlo hhi hF τ => ?_) ?_
            · rcases g with _ | ⟨a0, _ | ⟨a1, g⟩⟩ <;> first | (simp only [lenC, lenN] at hlo hhi; omega) | (refine ⟨_, rfl, ?_⟩; (first | refine xoN ?_ | (fail "NO RULE: Op.call -14")); exact xoF)
            refine DrawE.pure 1 1 rfl (.inl rfl) (fun L g hg hd => hg.2.1 14 (hd 14 (by decide))) (fun g hlo hhi hF τ => ?_) ?_
            · rcases g with _ | ⟨a0, _ | ⟨a1, g⟩⟩ <;> first | (simp only [lenC, lenN] at hlo hhi; omega) | (refine ⟨_, rfl, ?_⟩; (first | refine xoN ?_ | (refine xo_notOp rfl rfl rfl ?_)); exact xoF)
            refine DrawE.pure 1 1 rfl (.inl rfl) (fun L g hg hd => hg.2.1 7 (hd 7 (by decide))) (fun g hlo hhi hF τ => ?_) ?_
            · rcases g with _ | ⟨a0, _ | ⟨a1, g⟩⟩ <;> first | (simp only [lenC, lenN] at hlo hhi; omega) | (refine ⟨_, rfl, ?_⟩; (first | refine xo_pickT rfl rfl rfl rfl ?_ | refine xo_pickF rfl rfl rfl rfl ?_); exact xoF)
            refine DrawE.pure 1 1 rfl (.inl rfl) (fun L g hg hd => hg.2.1 16 (hd 16 (by decide))) (fun g hlo hhi hF τ => ?_) ?_
            · rcases g with _ | ⟨a0, _ | ⟨a1, g⟩⟩ <;> first | (simp only [lenC, lenN] at hlo hhi; omega) | (refine ⟨_, rfl, ?_⟩; refine xoM ?_; exact xoF)
            refine DrawE.pure 1 1 rfl (.inl rfl) (fun L g hg hd => hg.2.1 17 (hd 17 (by decide))) (fun g hlo hhi hF τ => ?_) ?_
            · rcases g with _ | ⟨a0, _ | ⟨a1, g⟩⟩ <;> first | (simp only [lenC, lenN] at hlo hhi; omega) | (refine ⟨_, rfl, ?_⟩; (first | refine xoN ?_ | (refine xo_fa T_ rfl rfl rfl rfl rfl ?_)); exact xoF)
            refine DrawE.pure 1 1 rfl (.inl rfl) (fun L g hg hd => hg.2.1 18 (hd 18 (by decide))) (fun g hlo hhi hF τ => ?_) ?_
            · rcases g with _ | ⟨a0, _ | ⟨a1, g⟩⟩ <;> first | (simp only [lenC, lenN] at hlo hhi; omega) | (refine ⟨_, rfl, ?_⟩; (first | refine xoN ?_ | (refine xo_load0 T_ rfl rfl rfl (by repeat first | exact mH | apply mT | apply mA) rfl rfl ?_)); exact xoF)
            refine DrawE.pure 1 1 rfl (.inl rfl) (fun L g hg hd => hg.2.1 19 (hd 19 (by decide))) (fun g hlo hhi hF τ => ?_) ?_
            · rcases g with _ | ⟨a0, _ | ⟨a1, g⟩⟩ <;> first | (simp only [lenC, lenN] at hlo hhi; omega) | (refine ⟨_, rfl, ?_⟩; (first | refine xoN ?_ | (refine xo_conv T_ rfl rfl rfl rfl (IntWalk.i64_in _ ⟨by omega, by omega⟩) rfl ?_)); exact xoF)
            refine DrawE.pure 1 1 rfl (.inl rfl) (fun L g hg hd => hg.2.1 20 (hd 20 (by decide))) (fun g hlo hhi hF τ => ?_) ?_
            · rcases g with _ | ⟨a0, _ | ⟨a1, g⟩⟩ <;> first | (simp only [lenC, lenN] at hlo hhi; omega) | (refine ⟨_, rfl, ?_⟩; (first | refine xoN ?_ | (refine xo_bs1 T_ rfl rfl rfl rfl rfl rfl rfl rfl (fun b101 => ?_))); exact xoF)
            refine DrawE.pure 1 1 rfl (.inl rfl) (fun L g hg hd => hg.2.1 21 (hd 21 (by decide))) (fun g hlo hhi hF τ => ?_) ?_
            · rcases g with _ | ⟨a0, _ | ⟨a1, g⟩⟩ <;> first | (simp only [lenC, lenN] at hlo hhi; omega) | (refine ⟨_, rfl, ?_⟩; (first | refine xoN ?_ | (fail "NO RULE: Op.call -22")); exact xoF)
            refine DrawE.pure 1 1 rfl (.inl rfl) (fun L g hg hd => hg.2.1 22 (hd 22 (by decide))) (fun g hlo hhi hF τ => ?_) ?_
            · rcases g with _ | ⟨a0, _ | ⟨a1, g⟩⟩ <;> first | (simp only [lenC, lenN] at hlo hhi; omega) | (refine ⟨_, rfl, ?_⟩; (first | refine xoN ?_ | (refine xo_notOp rfl rfl rfl ?_)); exact xoF)
            refine DrawE.pure 1 1 rfl (.inl rfl) (fun L g hg hd => hg.2.1 17 (hd 17 (by decide))) (fun g hlo hhi hF τ => ?_) ?_
            · rcases g with _ | ⟨a0, _ | ⟨a1, g⟩⟩ <;> first | (simp only [lenC, lenN] at hlo hhi; omega) | (refine ⟨_, rfl, ?_⟩; (first | refine xo_pickT rfl rfl rfl rfl ?_ | refine xo_pickF rfl rfl rfl rfl ?_); exact xoF)
            refine DrawE.pure 1 1 rfl (.inl rfl) (fun L g hg hd => hg.2.1 24 (hd 24 (by decide))) (fun g hlo hhi hF τ => ?_) ?_
            · rcases g with _ | ⟨a0, _ | ⟨a1, g⟩⟩ <;> first | (simp only [lenC, lenN] at hlo hhi; omega) | (refine ⟨_, rfl, ?_⟩; refine xoM ?_; exact xoF)
            refine DrawE.pure 1 1 rfl (.inl rfl) (fun L g hg hd => hg.2.1 25 (hd 25 (by decide))) (fun g hlo hhi hF τ => ?_) ?_
            · rcases g with _ | ⟨a0, _ | ⟨a1, g⟩⟩ <;> first | (simp only [lenC, lenN] at hlo hhi; omega) | (refine ⟨_, rfl, ?_⟩; (first | refine xoN ?_ | (fail "NO RULE: Op.call -26")); exact xoF)
            refine DrawE.pure 1 1 rfl (.inl rfl) (fun L g hg hd => hg.2.1 25 (hd 25 (by decide))) (fun g hlo hhi hF τ => ?_) ?_
            · rcases g with _ | ⟨a0, _ | ⟨a1, g⟩⟩ <;> first | (simp only [lenC, lenN] at hlo hhi; omega) | (refine ⟨_, rfl, ?_⟩; (first | refine xoN ?_ | (refine xo_fa T_ rfl rfl rfl rfl rfl ?_)); exact xoF)
            refine DrawE.pure 1 1 rfl (.inl rfl) (fun L g hg hd => hg.2.1 27 (hd 27 (by decide))) (fun g hlo hhi hF τ => ?_) ?_
            · rcases g with _ | ⟨a0, _ | ⟨a1, g⟩⟩ <;> first | (simp only [lenC, lenN] at hlo hhi; omega) | (refine ⟨_, rfl, ?_⟩; (first | refine xoN ?_ | (refine xo_load0 T_ rfl rfl rfl (by repeat first | exact mH | apply mT | apply mA) rfl rfl ?_)); exact xoF)
            refine DrawE.pure 1 1 rfl (.inl rfl) (fun L g hg hd => hg.2.1 26 (hd 26 (by decide))) (fun g hlo hhi hF τ => ?_) ?_
            · rcases g with _ | ⟨a0, _ | ⟨a1, g⟩⟩ <;> first | (simp only [lenC, lenN] at hlo hhi; omega) | (refine ⟨_, rfl, ?_⟩; (first | refine xoN ?_ | (fail "NO RULE: Op.index -29")); exact xoF)
            refine DrawE.pure 1 1 rfl (.inl rfl) (fun L g hg hd => hg.2.1 29 (hd 29 (by decide))) (fun g hlo hhi hF τ => ?_) ?_
            · rcases g with _ | ⟨a0, _ | ⟨a1, g⟩⟩ <;> first | (simp only [lenC, lenN] at hlo hhi; omega) | (refine ⟨_, rfl, ?_⟩; (first | refine xoN ?_ | (fail "NO RULE: Op.field -30")); exact xoF)
            refine DrawE.pure 1 1 rfl (.inl rfl) (fun L g hg hd => hg.2.1 25 (hd 25 (by decide))) (fun g hlo hhi hF τ => ?_) ?_
            · rcases g with _ | ⟨a0, _ | ⟨a1, g⟩⟩ <;> first | (simp only [lenC, lenN] at hlo hhi; omega) | (refine ⟨_, rfl, ?_⟩; (first | refine xoN ?_ | (refine xo_loadN T_ rfl rfl rfl (by repeat first | exact mH | apply mT | apply mA) rfl rfl ?_)); exact xoF)
            refine DrawE.pure 1 1 rfl (.inl rfl) (fun L g hg hd => hg.2.1 25 (hd 25 (by decide))) (fun g hlo hhi hF τ => ?_) ?_
            · rcases g with _ | ⟨a0, _ | ⟨a1, g⟩⟩ <;> first | (simp only [lenC, lenN] at hlo hhi; omega) | (refine ⟨_, rfl, ?_⟩; (first | refine xoN ?_ | (refine xo_loadN T_ rfl rfl rfl (by repeat first | exact mH | apply mT | apply mA) rfl rfl ?_)); exact xoF)
            refine DrawE.pure 1 1 rfl (.inl rfl) (fun L g hg hd => hg.2.1 30 (hd 30 (by decide))) (fun g hlo hhi hF τ => ?_) ?_
            · rcases g with _ | ⟨a0, _ | ⟨a1, g⟩⟩ <;> first | (simp only [lenC, lenN] at hlo hhi; omega) | (refine ⟨_, rfl, ?_⟩; (first | refine xoN ?_ | (fail "NO RULE: Op.call -33")); exact xoF)
            refine DrawE.pure 1 1 rfl (.inl rfl) (fun L g hg hd => hg.2.1 33 (hd 33 (by decide))) (fun g hlo hhi hF τ => ?_) ?_
            · rcases g with _ | ⟨a0, _ | ⟨a1, g⟩⟩ <;> first | (simp only [lenC, lenN] at hlo hhi; omega) | (refine ⟨_, rfl, ?_⟩; (first | refine xoN ?_ | (refine xo_notOp rfl rfl rfl ?_)); exact xoF)
            refine DrawE.pure 1 1 rfl (.inl rfl) (fun L g hg hd => hg.2.1 25 (hd 25 (by decide))) (fun g hlo hhi hF τ => ?_) ?_
            · rcases g with _ | ⟨a0, _ | ⟨a1, g⟩⟩ <;> first | (simp only [lenC, lenN] at hlo hhi; omega) | (refine ⟨_, rfl, ?_⟩; (first | refine xo_pickT rfl rfl rfl rfl ?_ | refine xo_pickF rfl rfl rfl rfl ?_); exact xoF)
            exact DrawE.nil
          intro g hgl hF
          obtain ⟨a0, rfl⟩ : ∃ a0, g = [a0] := by
            rcases g with _ | ⟨a0, _ | ⟨a1, g⟩⟩ <;> first | exact ⟨_, rfl⟩ | (exfalso; simp only [List.length_cons, List.length_nil] at hgl; omega)
          with_reducible (repeat first | apply xqT | apply xqB | apply xqS)
          refine xc_slots [(1, .pointer (some ⟨b1, 0, none⟩)), (2, .int .i64 0), (5, .int .i64 last), (7, .pointer (some ⟨b7, 0, none⟩)), (74, .slice (some ad) ms.length c2), (75, .int .i64 (ms.length : Int)), (76, .int .i64 (k : Int)), (115, .bool true)] ⟨rfl, rfl, rfl, rfl, rfl, rfl, rfl, rfl, trivial⟩ ?_
          with_reducible (repeat apply xc_seq)
          refine xc_condT rfl ?_
          with_reducible ((repeat apply xc_seq); apply xcR)
          refine xoA ?_
          with_reducible (apply xo_nil; (repeat first | apply xqT | apply xqB | apply xqS); (repeat apply xc_seq); apply xc_ret; (repeat (first | apply xq_thenR | apply xq_blockR | apply xq_scopeR)))
          exact xq_ret1 rfl rfl fun w' hw => ⟨by rw [check_no (by exact hn)], hw.kx.below⟩
        cases m2 : inF 0 (R - 1) m.f2
        · have hn : sceneF R E gs ms = false := by rw [hsc, hmk, m1, m2]; simp
          with_reducible (repeat apply xc_seq)
          apply xc_drawE (fun g => [(4, .slice (some ⟨(g.getD 0 gv0).b, 0, none⟩) 1 1), (13, .slice (some ⟨(g.getD 1 gv0).b, 0, none⟩) 1 1)]) (fun (η0 : Hp) g => match g with | [] => (η0) | a0 :: [] => ((a0.b, true, cel [.int .i64 m.f0] 3) :: η0) | a0 :: a1 :: _ => ((a1.b, true, cel [.int .i64 m.f2] 3) :: (a0.b, true, cel [.int .i64 m.f0] 3) :: η0)) (fun _ => True) [0, 0, 0, 0, 1, 1, 1, 1, 1, 1, 1, 1, 1, 2, 2, 2, 2, 2, 2, 2, 2, 2, 2, 2, 2, 2, 2, 2, 2, 2, 2, 2, 2, 2, 2, 2] [4, 13] [[3], [12, 7]] (by trivial)
          apply SameLen.cons
          apply SameLen.cons
          apply SameLen.cons
          apply SameLen.cons
          apply SameLen.cons (c := undef)
          apply SameLen.cons
          apply SameLen.cons
          apply SameLen.cons
          apply SameLen.cons
          apply SameLen.cons
          apply SameLen.cons
          apply SameLen.cons
          apply SameLen.cons
          apply SameLen.cons (c := undef)
          apply SameLen.cons
          apply SameLen.cons
          apply SameLen.cons
          apply SameLen.cons
          apply SameLen.cons
          apply SameLen.cons
          apply SameLen.cons
          apply SameLen.cons
          apply SameLen.cons
          apply SameLen.cons
          apply SameLen.cons
          apply SameLen.cons
          apply SameLen.cons
          apply SameLen.cons
          apply SameLen.cons
          apply SameLen.cons
          apply SameLen.cons
          apply SameLen.cons
          apply SameLen.cons
          apply SameLen.cons
          apply SameLen.cons
          apply SameLen.cons
          exact SameLen.nil
          rotate_left 34
          case hH0 => rfl
          case hmix => exact T_.mixed
          case hbind => rfl
          case hdeps => rfl
          case hdist => rfl
          case hfresh => rfl
          case hE => rfl
          case hEn => decide
          · refine DrawE.pure 0 2 rfl (.inl rfl) (fun L g hg hd => Nat.zero_le _) (fun g hlo hhi hF τ => ?_) ?_
            · rcases g with _ | ⟨a0, _ | ⟨a1, _ | ⟨a2, g⟩⟩⟩ <;> first | (simp only [lenC, lenN] at hlo hhi; omega) | (refine ⟨_, rfl, ?_⟩; refine xoM ?_; exact xoF)
            refine DrawE.pure 0 2 rfl (.inl rfl) (fun L g hg hd => Nat.zero_le _) (fun g hlo hhi hF τ => ?_) ?_
            · rcases g with _ | ⟨a0, _ | ⟨a1, _ | ⟨a2, g⟩⟩⟩ <;> first | (simp only [lenC, lenN] at hlo hhi; omega) | (refine ⟨_, rfl, ?_⟩; refine xo_add rfl rfl rfl (by omega) rfl ?_; exact xoF)
            refine DrawE.pure 0 2 rfl (.inl rfl) (fun L g hg hd => Nat.zero_le _) (fun g hlo hhi hF τ => ?_) ?_
            · rcases g with _ | ⟨a0, _ | ⟨a1, _ | ⟨a2, g⟩⟩⟩ <;> first | (simp only [lenC, lenN] at hlo hhi; omega) | (refine ⟨_, rfl, ?_⟩; refine xo_fa T_ rfl rfl rfl rfl rfl ?_; exact xoF)
            refine DrawE.pure 0 0 rfl (.inr (by decide)) (fun L g hg hd => Nat.zero_le _) (fun g hlo hhi hF τ => ?_) ?_
            · rcases g with _ | ⟨a0, _ | ⟨a1, _ | ⟨a2, g⟩⟩⟩ <;> first | (simp only [lenC, lenN] at hlo hhi; omega) | (refine ⟨_, rfl, ?_⟩; refine xo_load0 T_ rfl rfl rfl (by repeat first | exact mH | apply mT | apply mA) rfl rfl ?_; exact xoF)
            refine DrawE.eff 0 rfl (by decide) rfl (fun j hj => hj) (fun j g a hj => ?_) (fun L g hg hd => Nat.zero_le _) (fun g hgl hF τ => ?_) ?_
            · rcases j with _ | _ | _ | _ | _ | _ | _ | _ | _ | _ | _ | _ | _ | _ | _ | _ | _ | _ | _ | _ | _ | _ | _ | _ | _ | _ | _ | _ | _ | _ | _ | _ | _ | _ | _ | _ | j
              all_goals first | rfl | (rcases g with _ | ⟨a0, _ | ⟨a1, _ | ⟨a2, g⟩⟩⟩ <;> first | rfl | exact absurd hj (by decide) | exact absurd hj (by simp [List.getD]))
            · obtain rfl : g = [] := by
                rcases g with _ | ⟨a0, g⟩ <;> first | rfl | (exfalso; simp only [List.length_cons, List.length_nil] at hgl; omega)
              refine xo_bs1 T_ rfl rfl rfl rfl rfl rfl rfl rfl (fun b84 => ?_)
              exact xo_finE ⟨b84, 0, none⟩ rfl trivial
            refine DrawE.pure 1 2 rfl (.inl rfl) (fun L g hg hd => hg.2.1 4 (hd 4 (by decide))) (fun g hlo hhi hF τ => ?_) ?_
            · rcases g with _ | ⟨a0, _ | ⟨a1, _ | ⟨a2, g⟩⟩⟩
              all_goals first
                | (simp only [lenC, lenN] at hlo hhi; omega)
                | (refine ⟨_, rfl, ?_⟩
                   refine xo_callB (fs := []) (cs := []) rfl rfl rfl in_enters rfl (fun w1 hw1 => in_calls hw1 (last + 1) 9999 m.f0 (by repeat first | exact mH | apply mT | apply mA)) ?_
                   first
                     | exact xo_fin (congrArg Value.bool m1)
                     | exact xoF)
            refine DrawE.pure 1 2 rfl (.inl rfl) (fun L g hg hd => hg.2.1 5 (hd 5 (by decide))) (fun g hlo hhi hF τ => ?_) ?_
            · rcases g with _ | ⟨a0, _ | ⟨a1, _ | ⟨a2, g⟩⟩⟩ <;> first | (simp only [lenC, lenN] at hlo hhi; omega) | (refine ⟨_, rfl, ?_⟩; refine xo_notOp rfl rfl rfl ?_; exact xoF)
            refine DrawE.pure 1 1 rfl (.inr (by decide)) (fun L g hg hd => hg.2.1 6 (hd 6 (by decide))) (fun g hlo hhi hF τ => ?_) ?_
            · rcases g with _ | ⟨a0, _ | ⟨a1, _ | ⟨a2, g⟩⟩⟩ <;> first | (simp only [lenC, lenN] at hlo hhi; omega) | (refine ⟨_, rfl, ?_⟩; refine xoM ?_; exact xoF)
            refine DrawE.pure 1 2 rfl (.inl rfl) (fun L g hg hd => hg.2.1 7 (hd 7 (by decide))) (fun g hlo hhi hF τ => ?_) ?_
            · rcases g with _ | ⟨a0, _ | ⟨a1, _ | ⟨a2, g⟩⟩⟩ <;> first | (simp only [lenC, lenN] at hlo hhi; omega) | (refine ⟨_, rfl, ?_⟩; (first | refine xoN ?_ | (refine xo_fa T_ rfl rfl rfl rfl rfl ?_)); exact xoF)
            refine DrawE.pure 1 2 rfl (.inl rfl) (fun L g hg hd => hg.2.1 8 (hd 8 (by decide))) (fun g hlo hhi hF τ => ?_) ?_
            · rcases g with _ | ⟨a0, _ | ⟨a1, _ | ⟨a2, g⟩⟩⟩ <;> first | (simp only [lenC, lenN] at hlo hhi; omega) | (refine ⟨_, rfl, ?_⟩; (first | refine xoN ?_ | (refine xo_load0 T_ rfl rfl rfl (by repeat first | exact mH | apply mT | apply mA) rfl rfl ?_)); exact xoF)
            refine DrawE.pure 1 2 rfl (.inl rfl) (fun L g hg hd => hg.2.1 9 (hd 9 (by decide))) (fun g hlo hhi hF τ => ?_) ?_
            · rcases g with _ | ⟨a0, _ | ⟨a1, _ | ⟨a2, g⟩⟩⟩ <;> first | (simp only [lenC, lenN] at hlo hhi; omega) | (refine ⟨_, rfl, ?_⟩; (first | refine xoN ?_ | (refine xo_sub rfl rfl rfl (by omega) rfl ?_)); exact xoF)
            refine DrawE.pure 1 2 rfl (.inl rfl) (fun L g hg hd => hg.2.1 7 (hd 7 (by decide))) (fun g hlo hhi hF τ => ?_) ?_
            · rcases g with _ | ⟨a0, _ | ⟨a1, _ | ⟨a2, g⟩⟩⟩ <;> first | (simp only [lenC, lenN] at hlo hhi; omega) | (refine ⟨_, rfl, ?_⟩; (first | refine xoN ?_ | (refine xo_fa T_ rfl rfl rfl rfl rfl ?_)); exact xoF)
            refine DrawE.pure 1 1 rfl (.inr (by decide)) (fun L g hg hd => hg.2.1 11 (hd 11 (by decide))) (fun g hlo hhi hF τ => ?_) ?_
            · rcases g with _ | ⟨a0, _ | ⟨a1, _ | ⟨a2, g⟩⟩⟩ <;> first | (simp only [lenC, lenN] at hlo hhi; omega) | (refine ⟨_, rfl, ?_⟩; (first | refine xoN ?_ | (refine xo_load0 T_ rfl rfl rfl (by repeat first | exact mH | apply mT | apply mA) rfl rfl ?_)); exact xoF)
            refine DrawE.eff 1 rfl (by decide) rfl (fun j hj => hj) (fun j g a hj => ?_) (fun L g hg hd => hg.2.1 12 (hd 12 (by decide))) (fun g hgl hF τ => ?_) ?_
            · rcases j with _ | _ | _ | _ | _ | _ | _ | _ | _ | _ | _ | _ | _ | _ | _ | _ | _ | _ | _ | _ | _ | _ | _ | _ | _ | _ | _ | _ | _ | _ | _ | _ | _ | _ | _ | _ | j
              all_goals first | rfl | (rcases g with _ | ⟨a0, _ | ⟨a1, _ | ⟨a2, g⟩⟩⟩ <;> first | rfl | exact absurd hj (by decide) | exact absurd hj (by simp [List.getD]))
            · obtain ⟨a0, rfl⟩ : ∃ a0, g = [a0] := by
                rcases g with _ | ⟨a0, _ | ⟨a1, _ | ⟨a2, g⟩⟩⟩ <;> first | exact ⟨_, rfl⟩ | rfl | (exfalso; simp only [List.length_cons, List.length_nil] at hgl; omega)
              refine xo_bs1 T_ rfl rfl rfl rfl rfl rfl rfl rfl (fun b84 => ?_)
              exact xo_finE ⟨b84, 0, none⟩ rfl trivial
            refine DrawE.pure 2 2 rfl (.inl rfl) (fun L g hg hd => hg.2.1 13 (hd 13 (by decide))) (fun g hlo hhi hF τ => ?_) ?_
            · rcases g with _ | ⟨a0, _ | ⟨a1, _ | ⟨a2, g⟩⟩⟩
              all_goals first
                | (simp only [lenC, lenN] at hlo hhi; omega)
                | (refine ⟨_, rfl, ?_⟩
                   (first | refine xoN ?_ | refine xo_callB (fs := []) (cs := []) rfl rfl rfl in_enters rfl (fun w1 hw1 => in_calls hw1 0 (R - 1) m.f2 (by repeat first | exact mH | apply mT | apply mA)) ?_)
                   first
                     | exact xo_fin (congrArg Value.bool m2)
                     | exact xoF)
            refine DrawE.pure 2 2 rfl (.inl rfl) (fun L g hg hd => hg.2.1 14 (hd 14 (by decide))) (fun g hlo hhi hF τ => ?_) ?_
            · rcases g with _ | ⟨a0, _ | ⟨a1, _ | ⟨a2, g⟩⟩⟩ <;> first | (simp only [lenC, lenN] at hlo hhi; omega) | (refine ⟨_, rfl, ?_⟩; (first | refine xoN ?_ | (refine xo_notOp rfl rfl rfl ?_)); exact xoF)
            refine DrawE.pure 2 2 rfl (.inl rfl) (fun L g hg hd => hg.2.1 15 (hd 15 (by decide))) (fun g hlo hhi hF τ => ?_) ?_
            · rcases g with _ | ⟨a0, _ | ⟨a1, _ | ⟨a2, g⟩⟩⟩ <;> first | (simp only [lenC, lenN] at hlo hhi; omega) | (refine ⟨_, rfl, ?_⟩; (first | refine xo_pickT rfl rfl rfl rfl ?_ | refine xo_pickF rfl rfl rfl rfl ?_); exact xoF)
            refine DrawE.pure 2 2 rfl (.inl rfl) (fun L g hg hd => hg.2.1 16 (hd 16 (by decide))) (fun g hlo hhi hF τ => ?_) ?_
            · rcases g with _ | ⟨a0, _ | ⟨a1, _ | ⟨a2, g⟩⟩⟩ <;> first | (simp only [lenC, lenN] at hlo hhi; omega) | (refine ⟨_, rfl, ?_⟩; refine xoM ?_; exact xoF)
            refine DrawE.pure 2 2 rfl (.inl rfl) (fun L g hg hd => hg.2.1 17 (hd 17 (by decide))) (fun g hlo hhi hF τ => ?_) ?_
            · rcases g with _ | ⟨a0, _ | ⟨a1, _ | ⟨a2, g⟩⟩⟩ <;> first | (simp only [lenC, lenN] at hlo hhi; omega) | (refine ⟨_, rfl, ?_⟩; (first | refine xoN ?_ | (refine xo_fa T_ rfl rfl rfl rfl rfl ?_)); exact xoF)
            refine DrawE.pure 2 2 rfl (.inl rfl) (fun L g hg hd => hg.2.1 18 (hd 18 (by decide))) (fun g hlo hhi hF τ => ?_) ?_
            · rcases g with _ | ⟨a0, _ | ⟨a1, _ | ⟨a2, g⟩⟩⟩ <;> first | (simp only [lenC, lenN] at hlo hhi; omega) | (refine ⟨_, rfl, ?_⟩; (first | refine xoN ?_ | (refine xo_load0 T_ rfl rfl rfl (by repeat first | exact mH | apply mT | apply mA) rfl rfl ?_)); exact xoF)
            refine DrawE.pure 2 2 rfl (.inl rfl) (fun L g hg hd => hg.2.1 19 (hd 19 (by decide))) (fun g hlo hhi hF τ => ?_) ?_
            · rcases g with _ | ⟨a0, _ | ⟨a1, _ | ⟨a2, g⟩⟩⟩ <;> first | (simp only [lenC, lenN] at hlo hhi; omega) | (refine ⟨_, rfl, ?_⟩; (first | refine xoN ?_ | (refine xo_conv T_ rfl rfl rfl rfl (IntWalk.i64_in _ ⟨by omega, by omega⟩) rfl ?_)); exact xoF)
            refine DrawE.pure 2 2 rfl (.inl rfl) (fun L g hg hd => hg.2.1 20 (hd 20 (by decide))) (fun g hlo hhi hF τ => ?_) ?_
            · rcases g with _ | ⟨a0, _ | ⟨a1, _ | ⟨a2, g⟩⟩⟩ <;> first | (simp only [lenC, lenN] at hlo hhi; omega) | (refine ⟨_, rfl, ?_⟩; (first | refine xoN ?_ | (refine xo_bs1 T_ rfl rfl rfl rfl rfl rfl rfl rfl (fun b101 => ?_))); exact xoF)
            refine DrawE.pure 2 2 rfl (.inl rfl) (fun L g hg hd => hg.2.1 21 (hd 21 (by decide))) (fun g hlo hhi hF τ => ?_) ?_
            · rcases g with _ | ⟨a0, _ | ⟨a1, _ | ⟨a2, g⟩⟩⟩ <;> first | (simp only [lenC, lenN] at hlo hhi; omega) | (refine ⟨_, rfl, ?_⟩; (first | refine xoN ?_ | (fail "NO RULE: Op.call -22")); exact xoF)
            refine DrawE.pure 2 2 rfl (.inl rfl) (fun L g hg hd => hg.2.1 22 (hd 22 (by decide))) (fun g hlo hhi hF τ => ?_) ?_
            · rcases g with _ | ⟨a0, _ | ⟨a1, _ | ⟨a2, g⟩⟩⟩ <;> first | (simp only [lenC, lenN] at hlo hhi; omega) | (refine ⟨_, rfl, ?_⟩; (first | refine xoN ?_ | (refine xo_notOp rfl rfl rfl ?_)); exact xoF)
            refine DrawE.pure 2 2 rfl (.inl rfl) (fun L g hg hd => hg.2.1 17 (hd 17 (by decide))) (fun g hlo hhi hF τ => ?_) ?_
            · rcases g with _ | ⟨a0, _ | ⟨a1, _ | ⟨a2, g⟩⟩⟩ <;> first | (simp only [lenC, lenN] at hlo hhi; omega) | (refine ⟨_, rfl, ?_⟩; (first | refine xo_pickT rfl rfl rfl rfl ?_ | refine xo_pickF rfl rfl rfl rfl ?_); exact xoF)
            refine DrawE.pure 2 2 rfl (.inl rfl) (fun L g hg hd => hg.2.1 24 (hd 24 (by decide))) (fun g hlo hhi hF τ => ?_) ?_
            · rcases g with _ | ⟨a0, _ | ⟨a1, _ | ⟨a2, g⟩⟩⟩ <;> first | (simp only [lenC, lenN] at hlo hhi; omega) | (refine ⟨_, rfl, ?_⟩; refine xoM ?_; exact xoF)
            refine DrawE.pure 2 2 rfl (.inl rfl) (fun L g hg hd => hg.2.1 25 (hd 25 (by decide))) (fun g hlo hhi hF τ => ?_) ?_
            · rcases g with _ | ⟨a0, _ | ⟨a1, _ | ⟨a2, g⟩⟩⟩ <;> first | (simp only [lenC, lenN] at hlo hhi; omega) | (refine ⟨_, rfl, ?_⟩; (first | refine xoN ?_ | (fail "NO RULE: Op.call -26")); exact xoF)
            refine DrawE.pure 2 2 rfl (.inl rfl) (fun L g hg hd => hg.2.1 25 (hd 25 (by decide))) (fun g hlo hhi hF τ => ?_) ?_
            · rcases g with _ | ⟨a0, _ | ⟨a1, _ | ⟨a2, g⟩⟩⟩ <;> first | (simp only [lenC, lenN] at hlo hhi; omega) | (refine ⟨_, rfl, ?_⟩; (first | refine xoN ?_ | (refine xo_fa T_ rfl rfl rfl rfl rfl ?_)); exact xoF)
            refine DrawE.pure 2 2 rfl (.inl rfl) (fun L g hg hd => hg.2.1 27 (hd 27 (by decide))) (fun g hlo hhi hF τ => ?_) ?_
            · rcases g with _ | ⟨a0, _ | ⟨a1, _ | ⟨a2, g⟩⟩⟩ <;> first | (simp only [lenC, lenN] at hlo hhi; omega) | (refine ⟨_, rfl, ?_⟩; (first | refine xoN ?_ | (refine xo_load0 T_ rfl rfl rfl (by repeat first | exact mH | apply mT | apply mA) rfl rfl ?_)); exact xoF)
            refine DrawE.pure 2 2 rfl (.inl rfl) (fun L g hg hd => hg.2.1 26 (hd 26 (by decide))) (fun g hlo hhi hF τ => ?_) ?_
            · rcases g with _ | ⟨a0, _ | ⟨a1, _ | ⟨a2, g⟩⟩⟩ <;> first | (simp only [lenC, lenN] at hlo hhi; omega) | (refine ⟨_, rfl, ?_⟩; (first | refine xoN ?_ | (fail "NO RULE: Op.index -29")); exact xoF)
            refine DrawE.pure 2 2 rfl (.inl rfl) (fun L g hg hd => hg.2.1 29 (hd 29 (by decide))) (fun g hlo hhi hF τ => ?_) ?_
            · rcases g with _ | ⟨a0, _ | ⟨a1, _ | ⟨a2, g⟩⟩⟩ <;> first | (simp only [lenC, lenN] at hlo hhi; omega) | (refine ⟨_, rfl, ?_⟩; (first | refine xoN ?_ | (fail "NO RULE: Op.field -30")); exact xoF)
            refine DrawE.pure 2 2 rfl (.inl rfl) (fun L g hg hd => hg.2.1 25 (hd 25 (by decide))) (fun g hlo hhi hF τ => ?_) ?_
            · rcases g with _ | ⟨a0, _ | ⟨a1, _ | ⟨a2, g⟩⟩⟩ <;> first | (simp only [lenC, lenN] at hlo hhi; omega) | (refine ⟨_, rfl, ?_⟩; (first | refine xoN ?_ | (refine xo_loadN T_ rfl rfl rfl (by repeat first | exact mH | apply mT | apply mA) rfl rfl ?_)); exact xoF)
            refine DrawE.pure 2 2 rfl (.inl rfl) (fun L g hg hd => hg.2.1 25 (hd 25 (by decide))) (fun g hlo hhi hF τ => ?_) ?_
            · rcases g with _ | ⟨a0, _ | ⟨a1, _ | ⟨a2, g⟩⟩⟩ <;> first | (simp only [lenC, lenN] at hlo hhi; omega) | (refine ⟨_, rfl, ?_⟩; (first | refine xoN ?_ | (refine xo_loadN T_ rfl rfl rfl (by repeat first | exact mH | apply mT | apply mA) rfl rfl ?_)); exact xoF)
            refine DrawE.pure 2 2 rfl (.inl rfl) (fun L g hg hd => hg.2.1 30 (hd 30 (by decide))) (fun g hlo hhi hF τ => ?_) ?_
            · rcases g with _ | ⟨a0, _ | ⟨a1, _ | ⟨a2, g⟩⟩⟩ <;> first | (simp only [lenC, lenN] at hlo hhi; omega) | (refine ⟨_, rfl, ?_⟩; (first | refine xoN ?_ | (fail "NO RULE: Op.call -33")); exact xoF)
            refine DrawE.pure 2 2 rfl (.inl rfl) (fun L g hg hd => hg.2.1 33 (hd 33 (by decide))) (fun g hlo hhi hF τ => ?_) ?_
            · rcases g with _ | ⟨a0, _ | ⟨a1, _ | ⟨a2, g⟩⟩⟩ <;> first | (simp only [lenC, lenN] at hlo hhi; omega) | (refine ⟨_, rfl, ?_⟩; (first | refine xoN ?_ | (refine xo_notOp rfl rfl rfl ?_)); exact xoF)
            refine DrawE.pure 2 2 rfl (.inl rfl) (fun L g hg hd => hg.2.1 25 (hd 25 (by decide))) (fun g hlo hhi hF τ => ?_) ?_
            · rcases g with _ | ⟨a0, _ | ⟨a1, _ | ⟨a2, g⟩⟩⟩ <;> first | (simp only [lenC, lenN] at hlo hhi; omega) | (refine ⟨_, rfl, ?_⟩; (first | refine xo_pickT rfl rfl rfl rfl ?_ | refine xo_pickF rfl rfl rfl rfl ?_); exact xoF)
            exact DrawE.nil
          intro g hgl hF
          obtain ⟨a0, a1, rfl⟩ : ∃ a0 a1, g = [a0, a1] := by
            rcases g with _ | ⟨a0, _ | ⟨a1, _ | ⟨a2, g⟩⟩⟩ <;> first | exact ⟨_, _, rfl⟩ | (exfalso; simp only [List.length_cons, List.length_nil] at hgl; omega)
          with_reducible (repeat first | apply xqT | apply xqB | apply xqS)
          refine xc_slots [(1, .pointer (some ⟨b1, 0, none⟩)), (2, .int .i64 0), (5, .int .i64 last), (7, .pointer (some ⟨b7, 0, none⟩)), (74, .slice (some ad) ms.length c2), (75, .int .i64 (ms.length : Int)), (76, .int .i64 (k : Int)), (115, .bool true)] ⟨rfl, rfl, rfl, rfl, rfl, rfl, rfl, rfl, trivial⟩ ?_
          with_reducible (repeat apply xc_seq)
          refine xc_condT rfl ?_
          with_reducible ((repeat apply xc_seq); apply xcR)
          refine xoA ?_
          with_reducible (apply xo_nil; (repeat first | apply xqT | apply xqB | apply xqS); (repeat apply xc_seq); apply xc_ret; (repeat (first | apply xq_thenR | apply xq_blockR | apply xq_scopeR)))
          exact xq_ret1 rfl rfl fun w' hw => ⟨by rw [check_no (by exact hn)], hw.kx.below⟩
        cases m3 : inF 1 6 m.f1
        · have hn : sceneF R E gs ms = false := by rw [hsc, hmk, m1, m2, m3]; simp
          with_reducible (repeat apply xc_seq)
          apply xc_drawE (fun g => [(4, .slice (some ⟨(g.getD 0 gv0).b, 0, none⟩) 1 1), (13, .slice (some ⟨(g.getD 1 gv0).b, 0, none⟩) 1 1), (21, .slice (some ⟨(g.getD 2 gv0).b, 0, none⟩) 1 1)]) (fun (η0 : Hp) g => match g with | [] => (η0) | a0 :: [] => ((a0.b, true, cel [.int .i64 m.f0] 3) :: η0) | a0 :: a1 :: [] => ((a1.b, true, cel [.int .i64 m.f2] 3) :: (a0.b, true, cel [.int .i64 m.f0] 3) :: η0) | a0 :: a1 :: a2 :: _ => ((a2.b, true, cel [.int .i64 m.f1] 3) :: (a1.b, true, cel [.int .i64 m.f2] 3) :: (a0.b, true, cel [.int .i64 m.f0] 3) :: η0)) (fun _ => True) [0, 0, 0, 0, 1, 1, 1, 1, 1, 1, 1, 1, 1, 2, 2, 2, 2, 2, 2, 2, 2, 3, 3, 3, 3, 3, 3, 3, 3, 3, 3, 3, 3, 3, 3, 3] [4, 13, 21] [[3], [12, 7], [20, 17]] (by trivial)
          apply SameLen.cons
          apply SameLen.cons
          apply SameLen.cons
          apply SameLen.cons
          apply SameLen.cons (c := undef)
          apply SameLen.cons
          apply SameLen.cons
          apply SameLen.cons
          apply SameLen.cons
          apply SameLen.cons
          apply SameLen.cons
          apply SameLen.cons
          apply SameLen.cons
          apply SameLen.cons (c := undef)
          apply SameLen.cons
          apply SameLen.cons
          apply SameLen.cons
          apply SameLen.cons
          apply SameLen.cons
          apply SameLen.cons
          apply SameLen.cons
          apply SameLen.cons (c := undef)
          apply SameLen.cons
          apply SameLen.cons
          apply SameLen.cons
          apply SameLen.cons
          apply SameLen.cons
          apply SameLen.cons
          apply SameLen.cons
          apply SameLen.cons
          apply SameLen.cons
          apply SameLen.cons
          apply SameLen.cons
          apply SameLen.cons
          apply SameLen.cons
          apply SameLen.cons
          exact SameLen.nil
          rotate_left 33
          case hH0 => rfl
          case hmix => exact T_.mixed
          case hbind => rfl
          case hdeps => rfl
          case hdist => rfl
          case hfresh => rfl
          case hE => rfl
          case hEn => decide
          · refine DrawE.pure 0 3 rfl (.inl rfl) (fun L g hg hd => Nat.zero_le _) (fun g hlo hhi hF τ => ?_) ?_
            · rcases g with _ | ⟨a0, _ | ⟨a1, _ | ⟨a2, _ | ⟨a3, g⟩⟩⟩⟩ <;> first | (simp only [lenC, lenN] at hlo hhi; omega) | (refine ⟨_, rfl, ?_⟩; refine xoM ?_; exact xoF)
            refine DrawE.pure 0 3 rfl (.inl rfl) (fun L g hg hd => Nat.zero_le _) (fun g hlo hhi hF τ => ?_) ?_
            · rcases g with _ | ⟨a0, _ | ⟨a1, _ | ⟨a2, _ | ⟨a3, g⟩⟩⟩⟩ <;> first | (simp only [lenC, lenN] at hlo hhi; omega) | (refine ⟨_, rfl, ?_⟩; refine xo_add rfl rfl rfl (by omega) rfl ?_; exact xoF)
            refine DrawE.pure 0 3 rfl (.inl rfl) (fun L g hg hd => Nat.zero_le _) (fun g hlo hhi hF τ => ?_) ?_
            · rcases g with _ | ⟨a0, _ | ⟨a1, _ | ⟨a2, _ | ⟨a3, g⟩⟩⟩⟩ <;> first | (simp only [lenC, lenN] at hlo hhi; omega) | (refine ⟨_, rfl, ?_⟩; refine xo_fa T_ rfl rfl rfl rfl rfl ?_; exact xoF)
            refine DrawE.pure 0 0 rfl (.inr (by decide)) (fun L g hg hd => Nat.zero_le _) (fun g hlo hhi hF τ => ?_) ?_
            · rcases g with _ | ⟨a0, _ | ⟨a1, _ | ⟨a2, _ | ⟨a3, g⟩⟩⟩⟩ <;> first | (simp only [lenC, lenN] at hlo hhi; omega) | (refine ⟨_, rfl, ?_⟩; refine xo_load0 T_ rfl rfl rfl (by repeat first | exact mH | apply mT | apply mA) rfl rfl ?_; exact xoF)
            refine DrawE.eff 0 rfl (by decide) rfl (fun j hj => hj) (fun j g a hj => ?_) (fun L g hg hd => Nat.zero_le _) (fun g hgl hF τ => ?_) ?_
            · rcases j with _ | _ | _ | _ | _ | _ | _ | _ | _ | _ | _ | _ | _ | _ | _ | _ | _ | _ | _ | _ | _ | _ | _ | _ | _ | _ | _ | _ | _ | _ | _ | _ | _ | _ | _ | _ | j
              all_goals first | rfl | (rcases g with _ | ⟨a0, _ | ⟨a1, _ | ⟨a2, _ | ⟨a3, g⟩⟩⟩⟩ <;> first | rfl | exact absurd hj (by decide) | exact absurd hj (by simp [List.getD]))
            · obtain rfl : g = [] := by
                rcases g with _ | ⟨a0, g⟩ <;> first | rfl | (exfalso; simp only [List.length_cons, List.length_nil] at hgl; omega)
              refine xo_bs1 T_ rfl rfl rfl rfl rfl rfl rfl rfl (fun b84 => ?_)
              exact xo_finE ⟨b84, 0, none⟩ rfl trivial
            refine DrawE.pure 1 3 rfl (.inl rfl) (fun L g hg hd => hg.2.1 4 (hd 4 (by decide))) (fun g hlo hhi hF τ => ?_) ?_
            · rcases g with _ | ⟨a0, _ | ⟨a1, _ | ⟨a2, _ | ⟨a3, g⟩⟩⟩⟩
              all_goals first
                | (simp only [lenC, lenN] at hlo hhi; omega)
                | (refine ⟨_, rfl, ?_⟩
                   refine xo_callB (fs := []) (cs := []) rfl rfl rfl in_enters rfl (fun w1 hw1 => in_calls hw1 (last + 1) 9999 m.f0 (by repeat first | exact mH | apply mT | apply mA)) ?_
                   first
                     | exact xo_fin (congrArg Value.bool m1)
                     | exact xoF)
            refine DrawE.pure 1 3 rfl (.inl rfl) (fun L g hg hd => hg.2.1 5 (hd 5 (by decide))) (fun g hlo hhi hF τ => ?_) ?_
            · rcases g with _ | ⟨a0, _ | ⟨a1, _ | ⟨a2, _ | ⟨a3, g⟩⟩⟩⟩ <;> first | (simp only [lenC, lenN] at hlo hhi; omega) | (refine ⟨_, rfl, ?_⟩; refine xo_notOp rfl rfl rfl ?_; exact xoF)
            refine DrawE.pure 1 1 rfl (.inr (by decide)) (fun L g hg hd => hg.2.1 6 (hd 6 (by decide))) (fun g hlo hhi hF τ => ?_) ?_
            · rcases g with _ | ⟨a0, _ | ⟨a1, _ | ⟨a2, _ | ⟨a3, g⟩⟩⟩⟩ <;> first | (simp only [lenC, lenN] at hlo hhi; omega) | (refine ⟨_, rfl, ?_⟩; refine xoM ?_; exact xoF)
            refine DrawE.pure 1 3 rfl (.inl rfl) (fun L g hg hd => hg.2.1 7 (hd 7 (by decide))) (fun g hlo hhi hF τ => ?_) ?_
            · rcases g with _ | ⟨a0, _ | ⟨a1, _ | ⟨a2, _ | ⟨a3, g⟩⟩⟩⟩ <;> first | (simp only [lenC, lenN] at hlo hhi; omega) | (refine ⟨_, rfl, ?_⟩; (first | refine xoN ?_ | (refine xo_fa T_ rfl rfl rfl rfl rfl ?_)); exact xoF)
            refine DrawE.pure 1 3 rfl (.inl rfl) (fun L g hg hd => hg.2.1 8 (hd 8 (by decide))) (fun g hlo hhi hF τ => ?_) ?_
            · rcases g with _ | ⟨a0, _ | ⟨a1, _ | ⟨a2, _ | ⟨a3, g⟩⟩⟩⟩ <;> first | (simp only [lenC, lenN] at hlo hhi; omega) | (refine ⟨_, rfl, ?_⟩; (first | refine xoN ?_ | (refine xo_load0 T_ rfl rfl rfl (by repeat first | exact mH | apply mT | apply mA) rfl rfl ?_)); exact xoF)
            refine DrawE.pure 1 3 rfl (.inl rfl) (fun L g hg hd => hg.2.1 9 (hd 9 (by decide))) (fun g hlo hhi hF τ => ?_) ?_
            · rcases g with _ | ⟨a0, _ | ⟨a1, _ | ⟨a2, _ | ⟨a3, g⟩⟩⟩⟩ <;> first | (simp only [lenC, lenN] at hlo hhi; omega) | (refine ⟨_, rfl, ?_⟩; (first | refine xoN ?_ | (refine xo_sub rfl rfl rfl (by omega) rfl ?_)); exact xoF)
            refine DrawE.pure 1 3 rfl (.inl rfl) (fun L g hg hd => hg.2.1 7 (hd 7 (by decide))) (fun g hlo hhi hF τ => ?_) ?_
            · rcases g with _ | ⟨a0, _ | ⟨a1, _ | ⟨a2, _ | ⟨a3, g⟩⟩⟩⟩ <;> first | (simp only [lenC, lenN] at hlo hhi; omega) | (refine ⟨_, rfl, ?_⟩; (first | refine xoN ?_ | (refine xo_fa T_ rfl rfl rfl rfl rfl ?_)); exact xoF)
            refine DrawE.pure 1 1 rfl (.inr (by decide)) (fun L g hg hd => hg.2.1 11 (hd 11 (by decide))) (fun g hlo hhi hF τ => ?_) ?_
            · rcases g with _ | ⟨a0, _ | ⟨a1, _ | ⟨a2, _ | ⟨a3, g⟩⟩⟩⟩ <;> first | (simp only [lenC, lenN] at hlo hhi; omega) | (refine ⟨_, rfl, ?_⟩; (first | refine xoN ?_ | (refine xo_load0 T_ rfl rfl rfl (by repeat first | exact mH | apply mT | apply mA) rfl rfl ?_)); exact xoF)
            refine DrawE.eff 1 rfl (by decide) rfl (fun j hj => hj) (fun j g a hj => ?_) (fun L g hg hd => hg.2.1 12 (hd 12 (by decide))) (fun g hgl hF τ => ?_) ?_
            · rcases j with _ | _ | _ | _ | _ | _ | _ | _ | _ | _ | _ | _ | _ | _ | _ | _ | _ | _ | _ | _ | _ | _ | _ | _ | _ | _ | _ | _ | _ | _ | _ | _ | _ | _ | _ | _ | j
              all_goals first | rfl | (rcases g with _ | ⟨a0, _ | ⟨a1, _ | ⟨a2, _ | ⟨a3, g⟩⟩⟩⟩ <;> first | rfl | exact absurd hj (by decide) | exact absurd hj (by simp [List.getD]))
            · obtain ⟨a0, rfl⟩ : ∃ a0, g = [a0] := by
                rcases g with _ | ⟨a0, _ | ⟨a1, _ | ⟨a2, _ | ⟨a3, g⟩⟩⟩⟩ <;> first | exact ⟨_, rfl⟩ | rfl | (exfalso; simp only [List.length_cons, List.length_nil] at hgl; omega)
              refine xo_bs1 T_ rfl rfl rfl rfl rfl rfl rfl rfl (fun b84 => ?_)
              exact xo_finE ⟨b84, 0, none⟩ rfl trivial
            refine DrawE.pure 2 3 rfl (.inl rfl) (fun L g hg hd => hg.2.1 13 (hd 13 (by decide))) (fun g hlo hhi hF τ => ?_) ?_
            · rcases g with _ | ⟨a0, _ | ⟨a1, _ | ⟨a2, _ | ⟨a3, g⟩⟩⟩⟩
              all_goals first
                | (simp only [lenC, lenN] at hlo hhi; omega)
                | (refine ⟨_, rfl, ?_⟩
                   (first | refine xoN ?_ | refine xo_callB (fs := []) (cs := []) rfl rfl rfl in_enters rfl (fun w1 hw1 => in_calls hw1 0 (R - 1) m.f2 (by repeat first | exact mH | apply mT | apply mA)) ?_)
                   first
                     | exact xo_fin (congrArg Value.bool m2)
                     | exact xoF)
            refine DrawE.pure 2 3 rfl (.inl rfl) (fun L g hg hd => hg.2.1 14 (hd 14 (by decide))) (fun g hlo hhi hF τ => ?_) ?_
            · rcases g with _ | ⟨a0, _ | ⟨a1, _ | ⟨a2, _ | ⟨a3, g⟩⟩⟩⟩ <;> first | (simp only [lenC, lenN] at hlo hhi; omega) | (refine ⟨_, rfl, ?_⟩; (first | refine xoN ?_ | (refine xo_notOp rfl rfl rfl ?_)); exact xoF)
            refine DrawE.pure 2 3 rfl (.inl rfl) (fun L g hg hd => hg.2.1 15 (hd 15 (by decide))) (fun g hlo hhi hF τ => ?_) ?_
            · rcases g with _ | ⟨a0, _ | ⟨a1, _ | ⟨a2, _ | ⟨a3, g⟩⟩⟩⟩ <;> first | (simp only [lenC, lenN] at hlo hhi; omega) | (refine ⟨_, rfl, ?_⟩; (first | refine xo_pickT rfl rfl rfl rfl ?_ | refine xo_pickF rfl rfl rfl rfl ?_); exact xoF)
            refine DrawE.pure 2 2 rfl (.inr (by decide)) (fun L g hg hd => hg.2.1 16 (hd 16 (by decide))) (fun g hlo hhi hF τ => ?_) ?_
            · rcases g with _ | ⟨a0, _ | ⟨a1, _ | ⟨a2, _ | ⟨a3, g⟩⟩⟩⟩ <;> first | (simp only [lenC, lenN] at hlo hhi; omega) | (refine ⟨_, rfl, ?_⟩; refine xoM ?_; exact xoF)
            refine DrawE.pure 2 3 rfl (.inl rfl) (fun L g hg hd => hg.2.1 17 (hd 17 (by decide))) (fun g hlo hhi hF τ => ?_) ?_
            · rcases g with _ | ⟨a0, _ | ⟨a1, _ | ⟨a2, _ | ⟨a3, g⟩⟩⟩⟩ <;> first | (simp only [lenC, lenN] at hlo hhi; omega) | (refine ⟨_, rfl, ?_⟩; (first | refine xoN ?_ | (refine xo_fa T_ rfl rfl rfl rfl rfl ?_)); exact xoF)
            refine DrawE.pure 2 3 rfl (.inl rfl) (fun L g hg hd => hg.2.1 18 (hd 18 (by decide))) (fun g hlo hhi hF τ => ?_) ?_
            · rcases g with _ | ⟨a0, _ | ⟨a1, _ | ⟨a2, _ | ⟨a3, g⟩⟩⟩⟩ <;> first | (simp only [lenC, lenN] at hlo hhi; omega) | (refine ⟨_, rfl, ?_⟩; (first | refine xoN ?_ | (refine xo_load0 T_ rfl rfl rfl (by repeat first | exact mH | apply mT | apply mA) rfl rfl ?_)); exact xoF)
            refine DrawE.pure 2 2 rfl (.inr (by decide)) (fun L g hg hd => hg.2.1 19 (hd 19 (by decide))) (fun g hlo hhi hF τ => ?_) ?_
            · rcases g with _ | ⟨a0, _ | ⟨a1, _ | ⟨a2, _ | ⟨a3, g⟩⟩⟩⟩ <;> first | (simp only [lenC, lenN] at hlo hhi; omega) | (refine ⟨_, rfl, ?_⟩; (first | refine xoN ?_ | (refine xo_conv T_ rfl rfl rfl rfl (IntWalk.i64_in _ ⟨by omega, by omega⟩) rfl ?_)); exact xoF)
            refine DrawE.eff 2 rfl (by decide) rfl (fun j hj => hj) (fun j g a hj => ?_) (fun L g hg hd => hg.2.1 20 (hd 20 (by decide))) (fun g hgl hF τ => ?_) ?_
            · rcases j with _ | _ | _ | _ | _ | _ | _ | _ | _ | _ | _ | _ | _ | _ | _ | _ | _ | _ | _ | _ | _ | _ | _ | _ | _ | _ | _ | _ | _ | _ | _ | _ | _ | _ | _ | _ | j
              all_goals first | rfl | (rcases g with _ | ⟨a0, _ | ⟨a1, _ | ⟨a2, _ | ⟨a3, g⟩⟩⟩⟩ <;> first | rfl | exact absurd hj (by decide) | exact absurd hj (by simp [List.getD]))
            · obtain ⟨a0, a1, rfl⟩ : ∃ a0 a1, g = [a0, a1] := by
                rcases g with _ | ⟨a0, _ | ⟨a1, _ | ⟨a2, _ | ⟨a3, g⟩⟩⟩⟩ <;> first | exact ⟨_, _, rfl⟩ | rfl | (exfalso; simp only [List.length_cons, List.length_nil] at hgl; omega)
              refine xo_bs1 T_ rfl rfl rfl rfl rfl rfl rfl rfl (fun b84 => ?_)
              exact xo_finE ⟨b84, 0, none⟩ rfl trivial
            refine DrawE.pure 3 3 rfl (.inl rfl) (fun L g hg hd => hg.2.1 21 (hd 21 (by decide))) (fun g hlo hhi hF τ => ?_) ?_
            · rcases g with _ | ⟨a0, _ | ⟨a1, _ | ⟨a2, _ | ⟨a3, g⟩⟩⟩⟩
              all_goals first
                | (simp only [lenC, lenN] at hlo hhi; omega)
                | (refine ⟨_, rfl, ?_⟩
                   (first | refine xoN ?_ | refine xo_callB (fs := []) (cs := []) rfl rfl rfl in_enters rfl (fun w1 hw1 => in_calls hw1 1 6 m.f1 (by repeat first | exact mH | apply mT | apply mA)) ?_)
                   first
                     | exact xo_fin (congrArg Value.bool m3)
                     | exact xoF)
            refine DrawE.pure 3 3 rfl (.inl rfl) (fun L g hg hd => hg.2.1 22 (hd 22 (by decide))) (fun g hlo hhi hF τ => ?_) ?_
            · rcases g with _ | ⟨a0, _ | ⟨a1, _ | ⟨a2, _ | ⟨a3, g⟩⟩⟩⟩ <;> first | (simp only [lenC, lenN] at hlo hhi; omega) | (refine ⟨_, rfl, ?_⟩; (first | refine xoN ?_ | (refine xo_notOp rfl rfl rfl ?_)); exact xoF)
            refine DrawE.pure 3 3 rfl (.inl rfl) (fun L g hg hd => hg.2.1 23 (hd 23 (by decide))) (fun g hlo hhi hF τ => ?_) ?_
            · rcases g with _ | ⟨a0, _ | ⟨a1, _ | ⟨a2, _ | ⟨a3, g⟩⟩⟩⟩ <;> first | (simp only [lenC, lenN] at hlo hhi; omega) | (refine ⟨_, rfl, ?_⟩; (first | refine xo_pickT rfl rfl rfl rfl ?_ | refine xo_pickF rfl rfl rfl rfl ?_); exact xoF)
            refine DrawE.pure 3 3 rfl (.inl rfl) (fun L g hg hd => hg.2.1 24 (hd 24 (by decide))) (fun g hlo hhi hF τ => ?_) ?_
            · rcases g with _ | ⟨a0, _ | ⟨a1, _ | ⟨a2, _ | ⟨a3, g⟩⟩⟩⟩ <;> first | (simp only [lenC, lenN] at hlo hhi; omega) | (refine ⟨_, rfl, ?_⟩; refine xoM ?_; exact xoF)
            refine DrawE.pure 3 3 rfl (.inl rfl) (fun L g hg hd => hg.2.1 25 (hd 25 (by decide))) (fun g hlo hhi hF τ => ?_) ?_
            · rcases g with _ | ⟨a0, _ | ⟨a1, _ | ⟨a2, _ | ⟨a3, g⟩⟩⟩⟩ <;> first | (simp only [lenC, lenN] at hlo hhi; omega) | (refine ⟨_, rfl, ?_⟩; (first | refine xoN ?_ | (fail "NO RULE: Op.call -26")); exact xoF)
            refine DrawE.pure 3 3 rfl (.inl rfl) (fun L g hg hd => hg.2.1 25 (hd 25 (by decide))) (fun g hlo hhi hF τ => ?_) ?_
            · rcases g with _ | ⟨a0, _ | ⟨a1, _ | ⟨a2, _ | ⟨a3, g⟩⟩⟩⟩ <;> first | (simp only [lenC, lenN] at hlo hhi; omega) | (refine ⟨_, rfl, ?_⟩; (first | refine xoN ?_ | (refine xo_fa T_ rfl rfl rfl rfl rfl ?_)); exact xoF)
            refine DrawE.pure 3 3 rfl (.inl rfl) (fun L g hg hd => hg.2.1 27 (hd 27 (by decide))) (fun g hlo hhi hF τ => ?_) ?_
            · rcases g with _ | ⟨a0, _ | ⟨a1, _ | ⟨a2, _ | ⟨a3, g⟩⟩⟩⟩ <;> first | (simp only [lenC, lenN] at hlo hhi; omega) | (refine ⟨_, rfl, ?_⟩; (first | refine xoN ?_ | (refine xo_load0 T_ rfl rfl rfl (by repeat first | exact mH | apply mT | apply mA) rfl rfl ?_)); exact xoF)
            refine DrawE.pure 3 3 rfl (.inl rfl) (fun L g hg hd => hg.2.1 26 (hd 26 (by decide))) (fun g hlo hhi hF τ => ?_) ?_
            · rcases g with _ | ⟨a0, _ | ⟨a1, _ | ⟨a2, _ | ⟨a3, g⟩⟩⟩⟩ <;> first | (simp only [lenC, lenN] at hlo hhi; omega) | (refine ⟨_, rfl, ?_⟩; (first | refine xoN ?_ | (fail "NO RULE: Op.index -29")); exact xoF)
            refine DrawE.pure 3 3 rfl (.inl rfl) (fun L g hg hd => hg.2.1 29 (hd 29 (by decide))) (fun g hlo hhi hF τ => ?_) ?_
            · rcases g with _ | ⟨a0, _ | ⟨a1, _ | ⟨a2, _ | ⟨a3, g⟩⟩⟩⟩ <;> first | (simp only [lenC, lenN] at hlo hhi; omega) | (refine ⟨_, rfl, ?_⟩; (first | refine xoN ?_ | (fail "NO RULE: Op.field -30")); exact xoF)
            refine DrawE.pure 3 3 rfl (.inl rfl) (fun L g hg hd => hg.2.1 25 (hd 25 (by decide))) (fun g hlo hhi hF τ => ?_) ?_
            · rcases g with _ | ⟨a0, _ | ⟨a1, _ | ⟨a2, _ | ⟨a3, g⟩⟩⟩⟩ <;> first | (simp only [lenC, lenN] at hlo hhi; omega) | (refine ⟨_, rfl, ?_⟩; (first | refine xoN ?_ | (refine xo_loadN T_ rfl rfl rfl (by repeat first | exact mH | apply mT | apply mA) rfl rfl ?_)); exact xoF)
            refine DrawE.pure 3 3 rfl (.inl rfl) (fun L g hg hd => hg.2.1 25 (hd 25 (by decide))) (fun g hlo hhi hF τ => ?_) ?_
            · rcases g with _ | ⟨a0, _ | ⟨a1, _ | ⟨a2, _ | ⟨a3, g⟩⟩⟩⟩ <;> first | (simp only [lenC, lenN] at hlo hhi; omega) | (refine ⟨_, rfl, ?_⟩; (first | refine xoN ?_ | (refine xo_loadN T_ rfl rfl rfl (by repeat first | exact mH | apply mT | apply mA) rfl rfl ?_)); exact xoF)
            refine DrawE.pure 3 3 rfl (.inl rfl) (fun L g hg hd => hg.2.1 30 (hd 30 (by decide))) (fun g hlo hhi hF τ => ?_) ?_
            · rcases g with _ | ⟨a0, _ | ⟨a1, _ | ⟨a2, _ | ⟨a3, g⟩⟩⟩⟩ <;> first | (simp only [lenC, lenN] at hlo hhi; omega) | (refine ⟨_, rfl, ?_⟩; (first | refine xoN ?_ | (fail "NO RULE: Op.call -33")); exact xoF)
            refine DrawE.pure 3 3 rfl (.inl rfl) (fun L g hg hd => hg.2.1 33 (hd 33 (by decide))) (fun g hlo hhi hF τ => ?_) ?_
            · rcases g with _ | ⟨a0, _ | ⟨a1, _ | ⟨a2, _ | ⟨a3, g⟩⟩⟩⟩ <;> first | (simp only [lenC, lenN] at hlo hhi; omega) | (refine ⟨_, rfl, ?_⟩; (first | refine xoN ?_ | (refine xo_notOp rfl rfl rfl ?_)); exact xoF)
            refine DrawE.pure 3 3 rfl (.inl rfl) (fun L g hg hd => hg.2.1 25 (hd 25 (by decide))) (fun g hlo hhi hF τ => ?_) ?_
            · rcases g with _ | ⟨a0, _ | ⟨a1, _ | ⟨a2, _ | ⟨a3, g⟩⟩⟩⟩ <;> first | (simp only [lenC, lenN] at hlo hhi; omega) | (refine ⟨_, rfl, ?_⟩; (first | refine xo_pickT rfl rfl rfl rfl ?_ | refine xo_pickF rfl rfl rfl rfl ?_); exact xoF)
            exact DrawE.nil
          intro g hgl hF
          obtain ⟨a0, a1, a2, rfl⟩ : ∃ a0 a1 a2, g = [a0, a1, a2] := by
            rcases g with _ | ⟨a0, _ | ⟨a1, _ | ⟨a2, _ | ⟨a3, g⟩⟩⟩⟩ <;> first | exact ⟨_, _, _, rfl⟩ | (exfalso; simp only [List.length_cons, List.length_nil] at hgl; omega)
          with_reducible (repeat first | apply xqT | apply xqB | apply xqS)
          refine xc_slots [(1, .pointer (some ⟨b1, 0, none⟩)), (2, .int .i64 0), (5, .int .i64 last), (7, .pointer (some ⟨b7, 0, none⟩)), (74, .slice (some ad) ms.length c2), (75, .int .i64 (ms.length : Int)), (76, .int .i64 (k : Int)), (115, .bool true)] ⟨rfl, rfl, rfl, rfl, rfl, rfl, rfl, rfl, trivial⟩ ?_
          with_reducible (repeat apply xc_seq)
          refine xc_condT rfl ?_
          with_reducible ((repeat apply xc_seq); apply xcR)
          refine xoA ?_
          with_reducible (apply xo_nil; (repeat first | apply xqT | apply xqB | apply xqS); (repeat apply xc_seq); apply xc_ret; (repeat (first | apply xq_thenR | apply xq_blockR | apply xq_scopeR)))
          exact xq_ret1 rfl rfl fun w' hw => ⟨by rw [check_no (by exact hn)], hw.kx.below⟩
        have hk6 := inF_iff.1 m3
        cases m4 : kindF R m
        · have hn : sceneF R E gs ms = false := by rw [hsc, hmk, m1, m2, m3, m4]; simp
          with_reducible (repeat apply xc_seq)
          apply xc_drawE (fun g => [(4, .slice (some ⟨(g.getD 0 gv0).b, 0, none⟩) 1 1), (13, .slice (some ⟨(g.getD 1 gv0).b, 0, none⟩) 1 1), (21, .slice (some ⟨(g.getD 2 gv0).b, 0, none⟩) 1 1)]) (fun (η0 : Hp) g => match g with | [] => (η0) | a0 :: [] => ((a0.b, true, cel [.int .i64 m.f0] 3) :: η0) | a0 :: a1 :: [] => ((a1.b, true, cel [.int .i64 m.f2] 3) :: (a0.b, true, cel [.int .i64 m.f0] 3) :: η0) | a0 :: a1 :: a2 :: _ => ((a2.b, true, cel [.int .i64 m.f1] 3) :: (a1.b, true, cel [.int .i64 m.f2] 3) :: (a0.b, true, cel [.int .i64 m.f0] 3) :: η0)) (fun _ => True) [0, 0, 0, 0, 1, 1, 1, 1, 1, 1, 1, 1, 1, 2, 2, 2, 2, 2, 2, 2, 2, 3, 3, 3, 3, 3, 3, 3, 3, 3, 3, 3, 3, 3, 3, 3] [4, 13, 21] [[3], [12, 7], [20, 17]] (by trivial)
          apply SameLen.cons
          apply SameLen.cons
          apply SameLen.cons
          apply SameLen.cons
          apply SameLen.cons (c := undef)
          apply SameLen.cons
          apply SameLen.cons
          apply SameLen.cons
          apply SameLen.cons
          apply SameLen.cons
          apply SameLen.cons
          apply SameLen.cons
          apply SameLen.cons
          apply SameLen.cons (c := undef)
          apply SameLen.cons
          apply SameLen.cons
          apply SameLen.cons
          apply SameLen.cons
          apply SameLen.cons
          apply SameLen.cons
          apply SameLen.cons
          apply SameLen.cons (c := undef)
          apply SameLen.cons
          apply SameLen.cons
          apply SameLen.cons
          apply SameLen.cons
          apply SameLen.cons
          apply SameLen.cons
          apply SameLen.cons
          apply SameLen.cons
          apply SameLen.cons
          apply SameLen.cons
          apply SameLen.cons
          apply SameLen.cons
          apply SameLen.cons
          apply SameLen.cons
          exact SameLen.nil
          rotate_left 33
          case hH0 => rfl
          case hmix => exact T_.mixed
          case hbind => rfl
          case hdeps => rfl
          case hdist => rfl
          case hfresh => rfl
          case hE => rfl
          case hEn => decide
          · refine DrawE.pure 0 3 rfl (.inl rfl) (fun L g hg hd => Nat.zero_le _) (fun g hlo hhi hF τ => ?_) ?_
            · rcases g with _ | ⟨a0, _ | ⟨a1, _ | ⟨a2, _ | ⟨a3, g⟩⟩⟩⟩ <;> first | (simp only [lenC, lenN] at hlo hhi; omega) | (refine ⟨_, rfl, ?_⟩; refine xoM ?_; exact xoF)
            refine DrawE.pure 0 3 rfl (.inl rfl) (fun L g hg hd => Nat.zero_le _) (fun g hlo hhi hF τ => ?_) ?_
            · rcases g with _ | ⟨a0, _ | ⟨a1, _ | ⟨a2, _ | ⟨a3, g⟩⟩⟩⟩ <;> first | (simp only [lenC, lenN] at hlo hhi; omega) | (refine ⟨_, rfl, ?_⟩; refine xo_add rfl rfl rfl (by omega) rfl ?_; exact xoF)
            refine DrawE.pure 0 3 rfl (.inl rfl) (fun L g hg hd => Nat.zero_le _) (fun g hlo hhi hF τ => ?_) ?_
            · rcases g with _ | ⟨a0, _ | ⟨a1, _ | ⟨a2, _ | ⟨a3, g⟩⟩⟩⟩ <;> first | (simp only [lenC, lenN] at hlo hhi; omega) | (refine ⟨_, rfl, ?_⟩; refine xo_fa T_ rfl rfl rfl rfl rfl ?_; exact xoF)
            refine DrawE.pure 0 0 rfl (.inr (by decide)) (fun L g hg hd => Nat.zero_le _) (fun g hlo hhi hF τ => ?_) ?_
            · rcases g with _ | ⟨a0, _ | ⟨a1, _ | ⟨a2, _ | ⟨a3, g⟩⟩⟩⟩ <;> first | (simp only [lenC, lenN] at hlo hhi; omega) | (refine ⟨_, rfl, ?_⟩; refine xo_load0 T_ rfl rfl rfl (by repeat first | exact mH | apply mT | apply mA) rfl rfl ?_; exact xoF)
            refine DrawE.eff 0 rfl (by decide) rfl (fun j hj => hj) (fun j g a hj => ?_) (fun L g hg hd => Nat.zero_le _) (fun g hgl hF τ => ?_) ?_
            · rcases j with _ | _ | _ | _ | _ | _ | _ | _ | _ | _ | _ | _ | _ | _ | _ | _ | _ | _ | _ | _ | _ | _ | _ | _ | _ | _ | _ | _ | _ | _ | _ | _ | _ | _ | _ | _ | j
              all_goals first | rfl | (rcases g with _ | ⟨a0, _ | ⟨a1, _ | ⟨a2, _ | ⟨a3, g⟩⟩⟩⟩ <;> first | rfl | exact absurd hj (by decide) | exact absurd hj (by simp [List.getD]))
            · obtain rfl : g = [] := by
                rcases g with _ | ⟨a0, g⟩ <;> first | rfl | (exfalso; simp only [List.length_cons, List.length_nil] at hgl; omega)
              refine xo_bs1 T_ rfl rfl rfl rfl rfl rfl rfl rfl (fun b84 => ?_)
              exact xo_finE ⟨b84, 0, none⟩ rfl trivial
            refine DrawE.pure 1 3 rfl (.inl rfl) (fun L g hg hd => hg.2.1 4 (hd 4 (by decide))) (fun g hlo hhi hF τ => ?_) ?_
            · rcases g with _ | ⟨a0, _ | ⟨a1, _ | ⟨a2, _ | ⟨a3, g⟩⟩⟩⟩
              all_goals first
                | (simp only [lenC, lenN] at hlo hhi; omega)
                | (refine ⟨_, rfl, ?_⟩
                   refine xo_callB (fs := []) (cs := []) rfl rfl rfl in_enters rfl (fun w1 hw1 => in_calls hw1 (last + 1) 9999 m.f0 (by repeat first | exact mH | apply mT | apply mA)) ?_
                   first
                     | exact xo_fin (congrArg Value.bool m1)
                     | exact xoF)
            refine DrawE.pure 1 3 rfl (.inl rfl) (fun L g hg hd => hg.2.1 5 (hd 5 (by decide))) (fun g hlo hhi hF τ => ?_) ?_
            · rcases g with _ | ⟨a0, _ | ⟨a1, _ | ⟨a2, _ | ⟨a3, g⟩⟩⟩⟩ <;> first | (simp only [lenC, lenN] at hlo hhi; omega) | (refine ⟨_, rfl, ?_⟩; refine xo_notOp rfl rfl rfl ?_; exact xoF)
            refine DrawE.pure 1 1 rfl (.inr (by decide)) (fun L g hg hd => hg.2.1 6 (hd 6 (by decide))) (fun g hlo hhi hF τ => ?_) ?_
            · rcases g with _ | ⟨a0, _ | ⟨a1, _ | ⟨a2, _ | ⟨a3, g⟩⟩⟩⟩ <;> first | (simp only [lenC, lenN] at hlo hhi; omega) | (refine ⟨_, rfl, ?_⟩; refine xoM ?_; exact xoF)
            refine DrawE.pure 1 3 rfl (.inl rfl) (fun L g hg hd => hg.2.1 7 (hd 7 (by decide))) (fun g hlo hhi hF τ => ?_) ?_
            · rcases g with _ | ⟨a0, _ | ⟨a1, _ | ⟨a2, _ | ⟨a3, g⟩⟩⟩⟩ <;> first | (simp only [lenC, lenN] at hlo hhi; omega) | (refine ⟨_, rfl, ?_⟩; (first | refine xoN ?_ | (refine xo_fa T_ rfl rfl rfl rfl rfl ?_)); exact xoF)
            refine DrawE.pure 1 3 rfl (.inl rfl) (fun L g hg hd => hg.2.1 8 (hd 8 (by decide))) (fun g hlo hhi hF τ => ?_) ?_
            · rcases g with _ | ⟨a0, _ | ⟨a1, _ | ⟨a2, _ | ⟨a3, g⟩⟩⟩⟩ <;> first | (simp only [lenC, lenN] at hlo hhi; omega) | (refine ⟨_, rfl, ?_⟩; (first | refine xoN ?_ | (refine xo_load0 T_ rfl rfl rfl (by repeat first | exact mH | apply mT | apply mA) rfl rfl ?_)); exact xoF)
            refine DrawE.pure 1 3 rfl (.inl rfl) (fun L g hg hd => hg.2.1 9 (hd 9 (by decide))) (fun g hlo hhi hF τ => ?_) ?_
            · rcases g with _ | ⟨a0, _ | ⟨a1, _ | ⟨a2, _ | ⟨a3, g⟩⟩⟩⟩ <;> first | (simp only [lenC, lenN] at hlo hhi; omega) | (refine ⟨_, rfl, ?_⟩; (first | refine xoN ?_ | (refine xo_sub rfl rfl rfl (by omega) rfl ?_)); exact xoF)
            refine DrawE.pure 1 3 rfl (.inl rfl) (fun L g hg hd => hg.2.1 7 (hd 7 (by decide))) (fun g hlo hhi hF τ => ?_) ?_
            · rcases g with _ | ⟨a0, _ | ⟨a1, _ | ⟨a2, _ | ⟨a3, g⟩⟩⟩⟩ <;> first | (simp only [lenC, lenN] at hlo hhi; omega) | (refine ⟨_, rfl, ?_⟩; (first | refine xoN ?_ | (refine xo_fa T_ rfl rfl rfl rfl rfl ?_)); exact xoF)
            refine DrawE.pure 1 1 rfl (.inr (by decide)) (fun L g hg hd => hg.2.1 11 (hd 11 (by decide))) (fun g hlo hhi hF τ => ?_) ?_
            · rcases g with _ | ⟨a0, _ | ⟨a1, _ | ⟨a2, _ | ⟨a3, g⟩⟩⟩⟩ <;> first | (simp only [lenC, lenN] at hlo hhi; omega) | (refine ⟨_, rfl, ?_⟩; (first | refine xoN ?_ | (refine xo_load0 T_ rfl rfl rfl (by repeat first | exact mH | apply mT | apply mA) rfl rfl ?_)); exact xoF)
            refine DrawE.eff 1 rfl (by decide) rfl (fun j hj => hj) (fun j g a hj => ?_) (fun L g hg hd => hg.2.1 12 (hd 12 (by decide))) (fun g hgl hF τ => ?_) ?_
            · rcases j with _ | _ | _ | _ | _ | _ | _ | _ | _ | _ | _ | _ | _ | _ | _ | _ | _ | _ | _ | _ | _ | _ | _ | _ | _ | _ | _ | _ | _ | _ | _ | _ | _ | _ | _ | _ | j
              all_goals first | rfl | (rcases g with _ | ⟨a0, _ | ⟨a1, _ | ⟨a2, _ | ⟨a3, g⟩⟩⟩⟩ <;> first | rfl | exact absurd hj (by decide) | exact absurd hj (by simp [List.getD]))
            · obtain ⟨a0, rfl⟩ : ∃ a0, g = [a0] := by
                rcases g with _ | ⟨a0, _ | ⟨a1, _ | ⟨a2, _ | ⟨a3, g⟩⟩⟩⟩ <;> first | exact ⟨_, rfl⟩ | rfl | (exfalso; simp only [List.length_cons, List.length_nil] at hgl; omega)
              refine xo_bs1 T_ rfl rfl rfl rfl rfl rfl rfl rfl (fun b84 => ?_)
              exact xo_finE ⟨b84, 0, none⟩ rfl trivial
            refine DrawE.pure 2 3 rfl (.inl rfl) (fun L g hg hd => hg.2.1 13 (hd 13 (by decide))) (fun g hlo hhi hF τ => ?_) ?_
            · rcases g with _ | ⟨a0, _ | ⟨a1, _ | ⟨a2, _ | ⟨a3, g⟩⟩⟩⟩
              all_goals first
                | (simp only [lenC, lenN] at hlo hhi; omega)
                | (refine ⟨_, rfl, ?_⟩
                   (first | refine xoN ?_ | refine xo_callB (fs := []) (cs := []) rfl rfl rfl in_enters rfl (fun w1 hw1 => in_calls hw1 0 (R - 1) m.f2 (by repeat first | exact mH | apply mT | apply mA)) ?_)
                   first
                     | exact xo_fin (congrArg Value.bool m2)
                     | exact xoF)
            refine DrawE.pure 2 3 rfl (.inl rfl) (fun L g hg hd => hg.2.1 14 (hd 14 (by decide))) (fun g hlo hhi hF τ => ?_) ?_
            · rcases g with _ | ⟨a0, _ | ⟨a1, _ | ⟨a2, _ | ⟨a3, g⟩⟩⟩⟩ <;> first | (simp only [lenC, lenN] at hlo hhi; omega) | (refine ⟨_, rfl, ?_⟩; (first | refine xoN ?_ | (refine xo_notOp rfl rfl rfl ?_)); exact xoF)
            refine DrawE.pure 2 3 rfl (.inl rfl) (fun L g hg hd => hg.2.1 15 (hd 15 (by decide))) (fun g hlo hhi hF τ => ?_) ?_
            · rcases g with _ | ⟨a0, _ | ⟨a1, _ | ⟨a2, _ | ⟨a3, g⟩⟩⟩⟩ <;> first | (simp only [lenC, lenN] at hlo hhi; omega) | (refine ⟨_, rfl, ?_⟩; (first | refine xo_pickT rfl rfl rfl rfl ?_ | refine xo_pickF rfl rfl rfl rfl ?_); exact xoF)
            refine DrawE.pure 2 2 rfl (.inr (by decide)) (fun L g hg hd => hg.2.1 16 (hd 16 (by decide))) (fun g hlo hhi hF τ => ?_) ?_
            · rcases g with _ | ⟨a0, _ | ⟨a1, _ | ⟨a2, _ | ⟨a3, g⟩⟩⟩⟩ <;> first | (simp only [lenC, lenN] at hlo hhi; omega) | (refine ⟨_, rfl, ?_⟩; refine xoM ?_; exact xoF)
            refine DrawE.pure 2 3 rfl (.inl rfl) (fun L g hg hd => hg.2.1 17 (hd 17 (by decide))) (fun g hlo hhi hF τ => ?_) ?_
            · rcases g with _ | ⟨a0, _ | ⟨a1, _ | ⟨a2, _ | ⟨a3, g⟩⟩⟩⟩ <;> first | (simp only [lenC, lenN] at hlo hhi; omega) | (refine ⟨_, rfl, ?_⟩; (first | refine xoN ?_ | (refine xo_fa T_ rfl rfl rfl rfl rfl ?_)); exact xoF)
            refine DrawE.pure 2 3 rfl (.inl rfl) (fun L g hg hd => hg.2.1 18 (hd 18 (by decide))) (fun g hlo hhi hF τ => ?_) ?_
            · rcases g with _ | ⟨a0, _ | ⟨a1, _ | ⟨a2, _ | ⟨a3, g⟩⟩⟩⟩ <;> first | (simp only [lenC, lenN] at hlo hhi; omega) | (refine ⟨_, rfl, ?_⟩; (first | refine xoN ?_ | (refine xo_load0 T_ rfl rfl rfl (by repeat first | exact mH | apply mT | apply mA) rfl rfl ?_)); exact xoF)
            refine DrawE.pure 2 2 rfl (.inr (by decide)) (fun L g hg hd => hg.2.1 19 (hd 19 (by decide))) (fun g hlo hhi hF τ => ?_) ?_
            · rcases g with _ | ⟨a0, _ | ⟨a1, _ | ⟨a2, _ | ⟨a3, g⟩⟩⟩⟩ <;> first | (simp only [lenC, lenN] at hlo hhi; omega) | (refine ⟨_, rfl, ?_⟩; (first | refine xoN ?_ | (refine xo_conv T_ rfl rfl rfl rfl (IntWalk.i64_in _ ⟨by omega, by omega⟩) rfl ?_)); exact xoF)
            refine DrawE.eff 2 rfl (by decide) rfl (fun j hj => hj) (fun j g a hj => ?_) (fun L g hg hd => hg.2.1 20 (hd 20 (by decide))) (fun g hgl hF τ => ?_) ?_
            · rcases j with _ | _ | _ | _ | _ | _ | _ | _ | _ | _ | _ | _ | _ | _ | _ | _ | _ | _ | _ | _ | _ | _ | _ | _ | _ | _ | _ | _ | _ | _ | _ | _ | _ | _ | _ | _ | j
              all_goals first | rfl | (rcases g with _ | ⟨a0, _ | ⟨a1, _ | ⟨a2, _ | ⟨a3, g⟩⟩⟩⟩ <;> first | rfl | exact absurd hj (by decide) | exact absurd hj (by simp [List.getD]))
            · obtain ⟨a0, a1, rfl⟩ : ∃ a0 a1, g = [a0, a1] := by
                rcases g with _ | ⟨a0, _ | ⟨a1, _ | ⟨a2, _ | ⟨a3, g⟩⟩⟩⟩ <;> first | exact ⟨_, _, rfl⟩ | rfl | (exfalso; simp only [List.length_cons, List.length_nil] at hgl; omega)
              refine xo_bs1 T_ rfl rfl rfl rfl rfl rfl rfl rfl (fun b84 => ?_)
              exact xo_finE ⟨b84, 0, none⟩ rfl trivial
            refine DrawE.pure 3 3 rfl (.inl rfl) (fun L g hg hd => hg.2.1 21 (hd 21 (by decide))) (fun g hlo hhi hF τ => ?_) ?_
            · rcases g with _ | ⟨a0, _ | ⟨a1, _ | ⟨a2, _ | ⟨a3, g⟩⟩⟩⟩
              all_goals first
                | (simp only [lenC, lenN] at hlo hhi; omega)
                | (refine ⟨_, rfl, ?_⟩
                   (first | refine xoN ?_ | refine xo_callB (fs := []) (cs := []) rfl rfl rfl in_enters rfl (fun w1 hw1 => in_calls hw1 1 6 m.f1 (by repeat first | exact mH | apply mT | apply mA)) ?_)
                   first
                     | exact xo_fin (congrArg Value.bool m3)
                     | exact xoF)
            refine DrawE.pure 3 3 rfl (.inl rfl) (fun L g hg hd => hg.2.1 22 (hd 22 (by decide))) (fun g hlo hhi hF τ => ?_) ?_
            · rcases g with _ | ⟨a0, _ | ⟨a1, _ | ⟨a2, _ | ⟨a3, g⟩⟩⟩⟩ <;> first | (simp only [lenC, lenN] at hlo hhi; omega) | (refine ⟨_, rfl, ?_⟩; (first | refine xoN ?_ | (refine xo_notOp rfl rfl rfl ?_)); exact xoF)
            refine DrawE.pure 3 3 rfl (.inl rfl) (fun L g hg hd => hg.2.1 23 (hd 23 (by decide))) (fun g hlo hhi hF τ => ?_) ?_
            · rcases g with _ | ⟨a0, _ | ⟨a1, _ | ⟨a2, _ | ⟨a3, g⟩⟩⟩⟩ <;> first | (simp only [lenC, lenN] at hlo hhi; omega) | (refine ⟨_, rfl, ?_⟩; (first | refine xo_pickT rfl rfl rfl rfl ?_ | refine xo_pickF rfl rfl rfl rfl ?_); exact xoF)
            refine DrawE.pure 3 3 rfl (.inl rfl) (fun L g hg hd => hg.2.1 24 (hd 24 (by decide))) (fun g hlo hhi hF τ => ?_) ?_
            · rcases g with _ | ⟨a0, _ | ⟨a1, _ | ⟨a2, _ | ⟨a3, g⟩⟩⟩⟩ <;> first | (simp only [lenC, lenN] at hlo hhi; omega) | (refine ⟨_, rfl, ?_⟩; refine xoM ?_; exact xoF)
            refine DrawE.pure 3 3 rfl (.inl rfl) (fun L g hg hd => hg.2.1 25 (hd 25 (by decide))) (fun g hlo hhi hF τ => ?_) ?_
            · rcases g with _ | ⟨a0, _ | ⟨a1, _ | ⟨a2, _ | ⟨a3, g⟩⟩⟩⟩ <;> first | (simp only [lenC, lenN] at hlo hhi; omega) | (refine ⟨_, rfl, ?_⟩; (first | refine xoN ?_ | (refine xo_callB (fs := []) (cs := []) rfl rfl rfl kinds_enters rfl (fun w1 hw1 => kinds_calls w1) ?_)); exact xoF)
            refine DrawE.pure 3 3 rfl (.inl rfl) (fun L g hg hd => hg.2.1 25 (hd 25 (by decide))) (fun g hlo hhi hF τ => ?_) ?_
            · rcases g with _ | ⟨a0, _ | ⟨a1, _ | ⟨a2, _ | ⟨a3, g⟩⟩⟩⟩ <;> first | (simp only [lenC, lenN] at hlo hhi; omega) | (refine ⟨_, rfl, ?_⟩; (first | refine xoN ?_ | (refine xo_fa T_ rfl rfl rfl rfl rfl ?_)); exact xoF)
            refine DrawE.pure 3 3 rfl (.inl rfl) (fun L g hg hd => hg.2.1 27 (hd 27 (by decide))) (fun g hlo hhi hF τ => ?_) ?_
            · rcases g with _ | ⟨a0, _ | ⟨a1, _ | ⟨a2, _ | ⟨a3, g⟩⟩⟩⟩ <;> first | (simp only [lenC, lenN] at hlo hhi; omega) | (refine ⟨_, rfl, ?_⟩; (first | refine xoN ?_ | (refine xo_load0 T_ rfl rfl rfl (by repeat first | exact mH | apply mT | apply mA) rfl rfl ?_)); exact xoF)
            refine DrawE.pure 3 3 rfl (.inl rfl) (fun L g hg hd => hg.2.1 26 (hd 26 (by decide))) (fun g hlo hhi hF τ => ?_) ?_
            · rcases g with _ | ⟨a0, _ | ⟨a1, _ | ⟨a2, _ | ⟨a3, g⟩⟩⟩⟩ <;> first | (simp only [lenC, lenN] at hlo hhi; omega) | (refine ⟨_, rfl, ?_⟩; (first | refine xoN ?_ | (refine xo_ixV rfl rfl rfl (fun w => kinds_ix ⟨by omega, by omega⟩ w) rfl ?_)); exact xoF)
            refine DrawE.pure 3 3 rfl (.inl rfl) (fun L g hg hd => hg.2.1 29 (hd 29 (by decide))) (fun g hlo hhi hF τ => ?_) ?_
            · rcases g with _ | ⟨a0, _ | ⟨a1, _ | ⟨a2, _ | ⟨a3, g⟩⟩⟩⟩ <;> first | (simp only [lenC, lenN] at hlo hhi; omega) | (refine ⟨_, rfl, ?_⟩; (first | refine xoN ?_ | (refine xo_fldV rfl rfl (fun w => kinds_f0 _ _ w) rfl ?_)); exact xoF)
            refine DrawE.pure 3 3 rfl (.inl rfl) (fun L g hg hd => hg.2.1 25 (hd 25 (by decide))) (fun g hlo hhi hF τ => ?_) ?_
            · rcases g with _ | ⟨a0, _ | ⟨a1, _ | ⟨a2, _ | ⟨a3, g⟩⟩⟩⟩ <;> first | (simp only [lenC, lenN] at hlo hhi; omega) | (refine ⟨_, rfl, ?_⟩; (first | refine xoN ?_ | (refine xo_loadN T_ rfl rfl rfl (by repeat first | exact mH | apply mT | apply mA) rfl rfl ?_)); exact xoF)
            refine DrawE.pure 3 3 rfl (.inl rfl) (fun L g hg hd => hg.2.1 25 (hd 25 (by decide))) (fun g hlo hhi hF τ => ?_) ?_
            · rcases g with _ | ⟨a0, _ | ⟨a1, _ | ⟨a2, _ | ⟨a3, g⟩⟩⟩⟩ <;> first | (simp only [lenC, lenN] at hlo hhi; omega) | (refine ⟨_, rfl, ?_⟩; (first | refine xoN ?_ | (refine xo_loadN T_ rfl rfl rfl (by repeat first | exact mH | apply mT | apply mA) rfl rfl ?_)); exact xoF)
            refine DrawE.pure 3 3 rfl (.inl rfl) (fun L g hg hd => hg.2.1 30 (hd 30 (by decide))) (fun g hlo hhi hF τ => ?_) ?_
            · rcases g with _ | ⟨a0, _ | ⟨a1, _ | ⟨a2, _ | ⟨a3, g⟩⟩⟩⟩
              all_goals first
                | (simp only [lenC, lenN] at hlo hhi; omega)
                | (refine ⟨_, rfl, ?_⟩
                   (first | refine xoN ?_ | refine xo_callB (fs := []) (cs := []) rfl rfl rfl (right_enters hk6) rfl (fun w1 hw1 => right_calls R E A (some ad) gs.length c ms.length c2 m w1 hR hk6) ?_)
                   first
                     | exact xo_fin (congrArg Value.bool m4)
                     | exact xoF)
            refine DrawE.pure 3 3 rfl (.inl rfl) (fun L g hg hd => hg.2.1 33 (hd 33 (by decide))) (fun g hlo hhi hF τ => ?_) ?_
            · rcases g with _ | ⟨a0, _ | ⟨a1, _ | ⟨a2, _ | ⟨a3, g⟩⟩⟩⟩ <;> first | (simp only [lenC, lenN] at hlo hhi; omega) | (refine ⟨_, rfl, ?_⟩; (first | refine xoN ?_ | (refine xo_notOp rfl rfl rfl ?_)); exact xoF)
            refine DrawE.pure 3 3 rfl (.inl rfl) (fun L g hg hd => hg.2.1 25 (hd 25 (by decide))) (fun g hlo hhi hF τ => ?_) ?_
            · rcases g with _ | ⟨a0, _ | ⟨a1, _ | ⟨a2, _ | ⟨a3, g⟩⟩⟩⟩ <;> first | (simp only [lenC, lenN] at hlo hhi; omega) | (refine ⟨_, rfl, ?_⟩; (first | refine xo_pickT rfl rfl rfl rfl ?_ | refine xo_pickF rfl rfl rfl rfl ?_); exact xoF)
            exact DrawE.nil
          intro g hgl hF
          obtain ⟨a0, a1, a2, rfl⟩ : ∃ a0 a1 a2, g = [a0, a1, a2] := by
            rcases g with _ | ⟨a0, _ | ⟨a1, _ | ⟨a2, _ | ⟨a3, g⟩⟩⟩⟩ <;> first | exact ⟨_, _, _, rfl⟩ | (exfalso; simp only [List.length_cons, List.length_nil] at hgl; omega)
          with_reducible (repeat first | apply xqT | apply xqB | apply xqS)
          refine xc_slots [(1, .pointer (some ⟨b1, 0, none⟩)), (2, .int .i64 0), (5, .int .i64 last), (7, .pointer (some ⟨b7, 0, none⟩)), (74, .slice (some ad) ms.length c2), (75, .int .i64 (ms.length : Int)), (76, .int .i64 (k : Int)), (115, .bool true)] ⟨rfl, rfl, rfl, rfl, rfl, rfl, rfl, rfl, trivial⟩ ?_
          with_reducible (repeat apply xc_seq)
          refine xc_condT rfl ?_
          with_reducible ((repeat apply xc_seq); apply xcR)
          refine xoA ?_
          with_reducible (apply xo_nil; (repeat first | apply xqT | apply xqB | apply xqS); (repeat apply xc_seq); apply xc_ret; (repeat (first | apply xq_thenR | apply xq_blockR | apply xq_scopeR)))
          exact xq_ret1 rfl rfl fun w' hw => ⟨by rw [check_no (by exact hn)], hw.kx.below⟩
        have hid := inF_iff.1 m1
        rw [m1, m2, m3, m4] at hmk
        with_reducible (repeat apply xc_seq)
        apply xc_drawE (fun g => [(4, .slice (some ⟨(g.getD 0 gv0).b, 0, none⟩) 1 1), (13, .slice (some ⟨(g.getD 1 gv0).b, 0, none⟩) 1 1), (21, .slice (some ⟨(g.getD 2 gv0).b, 0, none⟩) 1 1)]) (fun (η0 : Hp) g => match g with | [] => (η0) | a0 :: [] => ((a0.b, true, cel [.int .i64 m.f0] 3) :: η0) | a0 :: a1 :: [] => ((a1.b, true, cel [.int .i64 m.f2] 3) :: (a0.b, true, cel [.int .i64 m.f0] 3) :: η0) | a0 :: a1 :: a2 :: _ => ((a2.b, true, cel [.int .i64 m.f1] 3) :: (a1.b, true, cel [.int .i64 m.f2] 3) :: (a0.b, true, cel [.int .i64 m.f0] 3) :: η0)) (fun _ => True) [0, 0, 0, 0, 1, 1, 1, 1, 1, 1, 1, 1, 1, 2, 2, 2, 2, 2, 2, 2, 2, 3, 3, 3, 3, 3, 3, 3, 3, 3, 3, 3, 3, 3, 3, 3] [4, 13, 21] [[3], [12, 7], [20, 17]] (by trivial)
        apply SameLen.cons
        apply SameLen.cons
        apply SameLen.cons
        apply SameLen.cons
        apply SameLen.cons (c := undef)
        apply SameLen.cons
        apply SameLen.cons
        apply SameLen.cons
        apply SameLen.cons
        apply SameLen.cons
        apply SameLen.cons
        apply SameLen.cons
        apply SameLen.cons
        apply SameLen.cons (c := undef)
        apply SameLen.cons
        apply SameLen.cons
        apply SameLen.cons
        apply SameLen.cons
        apply SameLen.cons
        apply SameLen.cons
        apply SameLen.cons
        apply SameLen.cons (c := undef)
        apply SameLen.cons
        apply SameLen.cons
        apply SameLen.cons
        apply SameLen.cons
        apply SameLen.cons
        apply SameLen.cons
        apply SameLen.cons
        apply SameLen.cons
        apply SameLen.cons
        apply SameLen.cons
        apply SameLen.cons
        apply SameLen.cons
        apply SameLen.cons
        apply SameLen.cons
        exact SameLen.nil
        rotate_left 33
        case hH0 => rfl
        case hmix => exact T_.mixed
        case hbind => rfl
        case hdeps => rfl
        case hdist => rfl
        case hfresh => rfl
        case hE => rfl
        case hEn => decide
        · refine DrawE.pure 0 3 rfl (.inl rfl) (fun L g hg hd => Nat.zero_le _) (fun g hlo hhi hF τ => ?_) ?_
          · rcases g with _ | ⟨a0, _ | ⟨a1, _ | ⟨a2, _ | ⟨a3, g⟩⟩⟩⟩ <;> first | (simp only [lenC, lenN] at hlo hhi; omega) | (refine ⟨_, rfl, ?_⟩; refine xoM ?_; exact xoF)
          refine DrawE.pure 0 3 rfl (.inl rfl) (fun L g hg hd => Nat.zero_le _) (fun g hlo hhi hF τ => ?_) ?_
          · rcases g with _ | ⟨a0, _ | ⟨a1, _ | ⟨a2, _ | ⟨a3, g⟩⟩⟩⟩ <;> first | (simp only [lenC, lenN] at hlo hhi; omega) | (refine ⟨_, rfl, ?_⟩; refine xo_add rfl rfl rfl (by omega) rfl ?_; exact xoF)
          refine DrawE.pure 0 3 rfl (.inl rfl) (fun L g hg hd => Nat.zero_le _) (fun g hlo hhi hF τ => ?_) ?_
          · rcases g with _ | ⟨a0, _ | ⟨a1, _ | ⟨a2, _ | ⟨a3, g⟩⟩⟩⟩ <;> first | (simp only [lenC, lenN] at hlo hhi; omega) | (refine ⟨_, rfl, ?_⟩; refine xo_fa T_ rfl rfl rfl rfl rfl ?_; exact xoF)
          refine DrawE.pure 0 0 rfl (.inr (by decide)) (fun L g hg hd => Nat.zero_le _) (fun g hlo hhi hF τ => ?_) ?_
          · rcases g with _ | ⟨a0, _ | ⟨a1, _ | ⟨a2, _ | ⟨a3, g⟩⟩⟩⟩ <;> first | (simp only [lenC, lenN] at hlo hhi; omega) | (refine ⟨_, rfl, ?_⟩; refine xo_load0 T_ rfl rfl rfl (by repeat first | exact mH | apply mT | apply mA) rfl rfl ?_; exact xoF)
          refine DrawE.eff 0 rfl (by decide) rfl (fun j hj => hj) (fun j g a hj => ?_) (fun L g hg hd => Nat.zero_le _) (fun g hgl hF τ => ?_) ?_
          · rcases j with _ | _ | _ | _ | _ | _ | _ | _ | _ | _ | _ | _ | _ | _ | _ | _ | _ | _ | _ | _ | _ | _ | _ | _ | _ | _ | _ | _ | _ | _ | _ | _ | _ | _ | _ | _ | j
            all_goals first | rfl | (rcases g with _ | ⟨a0, _ | ⟨a1, _ | ⟨a2, _ | ⟨a3, g⟩⟩⟩⟩ <;> first | rfl | exact absurd hj (by decide) | exact absurd hj (by simp [List.getD]))
          · obtain rfl : g = [] := by
              rcases g with _ | ⟨a0, g⟩ <;> first | rfl | (exfalso; simp only [List.length_cons, List.length_nil] at hgl; omega)
            refine xo_bs1 T_ rfl rfl rfl rfl rfl rfl rfl rfl (fun b84 => ?_)
            exact xo_finE ⟨b84, 0, none⟩ rfl trivial
          refine DrawE.pure 1 3 rfl (.inl rfl) (fun L g hg hd => hg.2.1 4 (hd 4 (by decide))) (fun g hlo hhi hF τ => ?_) ?_
          · rcases g with _ | ⟨a0, _ | ⟨a1, _ | ⟨a2, _ | ⟨a3, g⟩⟩⟩⟩
            all_goals first
              | (simp only [lenC, lenN] at hlo hhi; omega)
              | (refine ⟨_, rfl, ?_⟩
                 refine xo_callB (fs := []) (cs := []) rfl rfl rfl in_enters rfl (fun w1 hw1 => in_calls hw1 (last + 1) 9999 m.f0 (by repeat first | exact mH | apply mT | apply mA)) ?_
                 first
                   | exact xo_fin (congrArg Value.bool m1)
                   | exact xoF)
          refine DrawE.pure 1 3 rfl (.inl rfl) (fun L g hg hd => hg.2.1 5 (hd 5 (by decide))) (fun g hlo hhi hF τ => ?_) ?_
          · rcases g with _ | ⟨a0, _ | ⟨a1, _ | ⟨a2, _ | ⟨a3, g⟩⟩⟩⟩ <;> first | (simp only [lenC, lenN] at hlo hhi; omega) | (refine ⟨_, rfl, ?_⟩; refine xo_notOp rfl rfl rfl ?_; exact xoF)
          refine DrawE.pure 1 1 rfl (.inr (by decide)) (fun L g hg hd => hg.2.1 6 (hd 6 (by decide))) (fun g hlo hhi hF τ => ?_) ?_
          · rcases g with _ | ⟨a0, _ | ⟨a1, _ | ⟨a2, _ | ⟨a3, g⟩⟩⟩⟩ <;> first | (simp only [lenC, lenN] at hlo hhi; omega) | (refine ⟨_, rfl, ?_⟩; refine xoM ?_; exact xoF)
          refine DrawE.pure 1 3 rfl (.inl rfl) (fun L g hg hd => hg.2.1 7 (hd 7 (by decide))) (fun g hlo hhi hF τ => ?_) ?_
          · rcases g with _ | ⟨a0, _ | ⟨a1, _ | ⟨a2, _ | ⟨a3, g⟩⟩⟩⟩ <;> first | (simp only [lenC, lenN] at hlo hhi; omega) | (refine ⟨_, rfl, ?_⟩; (first | refine xoN ?_ | (refine xo_fa T_ rfl rfl rfl rfl rfl ?_)); exact xoF)
          refine DrawE.pure 1 3 rfl (.inl rfl) (fun L g hg hd => hg.2.1 8 (hd 8 (by decide))) (fun g hlo hhi hF τ => ?_) ?_
          · rcases g with _ | ⟨a0, _ | ⟨a1, _ | ⟨a2, _ | ⟨a3, g⟩⟩⟩⟩ <;> first | (simp only [lenC, lenN] at hlo hhi; omega) | (refine ⟨_, rfl, ?_⟩; (first | refine xoN ?_ | (refine xo_load0 T_ rfl rfl rfl (by repeat first | exact mH | apply mT | apply mA) rfl rfl ?_)); exact xoF)
          refine DrawE.pure 1 3 rfl (.inl rfl) (fun L g hg hd => hg.2.1 9 (hd 9 (by decide))) (fun g hlo hhi hF τ => ?_) ?_
          · rcases g with _ | ⟨a0, _ | ⟨a1, _ | ⟨a2, _ | ⟨a3, g⟩⟩⟩⟩ <;> first | (simp only [lenC, lenN] at hlo hhi; omega) | (refine ⟨_, rfl, ?_⟩; (first | refine xoN ?_ | (refine xo_sub rfl rfl rfl (by omega) rfl ?_)); exact xoF)
          refine DrawE.pure 1 3 rfl (.inl rfl) (fun L g hg hd => hg.2.1 7 (hd 7 (by decide))) (fun g hlo hhi hF τ => ?_) ?_
          · rcases g with _ | ⟨a0, _ | ⟨a1, _ | ⟨a2, _ | ⟨a3, g⟩⟩⟩⟩ <;> first | (simp only [lenC, lenN] at hlo hhi; omega) | (refine ⟨_, rfl, ?_⟩; (first | refine xoN ?_ | (refine xo_fa T_ rfl rfl rfl rfl rfl ?_)); exact xoF)
          refine DrawE.pure 1 1 rfl (.inr (by decide)) (fun L g hg hd => hg.2.1 11 (hd 11 (by decide))) (fun g hlo hhi hF τ => ?_) ?_
          · rcases g with _ | ⟨a0, _ | ⟨a1, _ | ⟨a2, _ | ⟨a3, g⟩⟩⟩⟩ <;> first | (simp only [lenC, lenN] at hlo hhi; omega) | (refine ⟨_, rfl, ?_⟩; (first | refine xoN ?_ | (refine xo_load0 T_ rfl rfl rfl (by repeat first | exact mH | apply mT | apply mA) rfl rfl ?_)); exact xoF)
          refine DrawE.eff 1 rfl (by decide) rfl (fun j hj => hj) (fun j g a hj => ?_) (fun L g hg hd => hg.2.1 12 (hd 12 (by decide))) (fun g hgl hF τ => ?_) ?_
          · rcases j with _ | _ | _ | _ | _ | _ | _ | _ | _ | _ | _ | _ | _ | _ | _ | _ | _ | _ | _ | _ | _ | _ | _ | _ | _ | _ | _ | _ | _ | _ | _ | _ | _ | _ | _ | _ | j
            all_goals first | rfl | (rcases g with _ | ⟨a0, _ | ⟨a1, _ | ⟨a2, _ | ⟨a3, g⟩⟩⟩⟩ <;> first | rfl | exact absurd hj (by decide) | exact absurd hj (by simp [List.getD]))
          · obtain ⟨a0, rfl⟩ : ∃ a0, g = [a0] := by
              rcases g with _ | ⟨a0, _ | ⟨a1, _ | ⟨a2, _ | ⟨a3, g⟩⟩⟩⟩ <;> first | exact ⟨_, rfl⟩ | rfl | (exfalso; simp only [List.length_cons, List.length_nil] at hgl; omega)
            refine xo_bs1 T_ rfl rfl rfl rfl rfl rfl rfl rfl (fun b84 => ?_)
            exact xo_finE ⟨b84, 0, none⟩ rfl trivial
          refine DrawE.pure 2 3 rfl (.inl rfl) (fun L g hg hd => hg.2.1 13 (hd 13 (by decide))) (fun g hlo hhi hF τ => ?_) ?_
          · rcases g with _ | ⟨a0, _ | ⟨a1, _ | ⟨a2, _ | ⟨a3, g⟩⟩⟩⟩
            all_goals first
              | (simp only [lenC, lenN] at hlo hhi; omega)
              | (refine ⟨_, rfl, ?_⟩
                 (first | refine xoN ?_ | refine xo_callB (fs := []) (cs := []) rfl rfl rfl in_enters rfl (fun w1 hw1 => in_calls hw1 0 (R - 1) m.f2 (by repeat first | exact mH | apply mT | apply mA)) ?_)
                 first
                   | exact xo_fin (congrArg Value.bool m2)
                   | exact xoF)
          refine DrawE.pure 2 3 rfl (.inl rfl) (fun L g hg hd => hg.2.1 14 (hd 14 (by decide))) (fun g hlo hhi hF τ => ?_) ?_
          · rcases g with _ | ⟨a0, _ | ⟨a1, _ | ⟨a2, _ | ⟨a3, g⟩⟩⟩⟩ <;> first | (simp only [lenC, lenN] at hlo hhi; omega) | (refine ⟨_, rfl, ?_⟩; (first | refine xoN ?_ | (refine xo_notOp rfl rfl rfl ?_)); exact xoF)
          refine DrawE.pure 2 3 rfl (.inl rfl) (fun L g hg hd => hg.2.1 15 (hd 15 (by decide))) (fun g hlo hhi hF τ => ?_) ?_
          · rcases g with _ | ⟨a0, _ | ⟨a1, _ | ⟨a2, _ | ⟨a3, g⟩⟩⟩⟩ <;> first | (simp only [lenC, lenN] at hlo hhi; omega) | (refine ⟨_, rfl, ?_⟩; (first | refine xo_pickT rfl rfl rfl rfl ?_ | refine xo_pickF rfl rfl rfl rfl ?_); exact xoF)
          refine DrawE.pure 2 2 rfl (.inr (by decide)) (fun L g hg hd => hg.2.1 16 (hd 16 (by decide))) (fun g hlo hhi hF τ => ?_) ?_
          · rcases g with _ | ⟨a0, _ | ⟨a1, _ | ⟨a2, _ | ⟨a3, g⟩⟩⟩⟩ <;> first | (simp only [lenC, lenN] at hlo hhi; omega) | (refine ⟨_, rfl, ?_⟩; refine xoM ?_; exact xoF)
          refine DrawE.pure 2 3 rfl (.inl rfl) (fun L g hg hd => hg.2.1 17 (hd 17 (by decide))) (fun g hlo hhi hF τ => ?_) ?_
          · rcases g with _ | ⟨a0, _ | ⟨a1, _ | ⟨a2, _ | ⟨a3, g⟩⟩⟩⟩ <;> first | (simp only [lenC, lenN] at hlo hhi; omega) | (refine ⟨_, rfl, ?_⟩; (first | refine xoN ?_ | (refine xo_fa T_ rfl rfl rfl rfl rfl ?_)); exact xoF)
          refine DrawE.pure 2 3 rfl (.inl rfl) (fun L g hg hd => hg.2.1 18 (hd 18 (by decide))) (fun g hlo hhi hF τ => ?_) ?_
          · rcases g with _ | ⟨a0, _ | ⟨a1, _ | ⟨a2, _ | ⟨a3, g⟩⟩⟩⟩ <;> first | (simp only [lenC, lenN] at hlo hhi; omega) | (refine ⟨_, rfl, ?_⟩; (first | refine xoN ?_ | (refine xo_load0 T_ rfl rfl rfl (by repeat first | exact mH | apply mT | apply mA) rfl rfl ?_)); exact xoF)
          refine DrawE.pure 2 2 rfl (.inr (by decide)) (fun L g hg hd => hg.2.1 19 (hd 19 (by decide))) (fun g hlo hhi hF τ => ?_) ?_
          · rcases g with _ | ⟨a0, _ | ⟨a1, _ | ⟨a2, _ | ⟨a3, g⟩⟩⟩⟩ <;> first | (simp only [lenC, lenN] at hlo hhi; omega) | (refine ⟨_, rfl, ?_⟩; (first | refine xoN ?_ | (refine xo_conv T_ rfl rfl rfl rfl (IntWalk.i64_in _ ⟨by omega, by omega⟩) rfl ?_)); exact xoF)
          refine DrawE.eff 2 rfl (by decide) rfl (fun j hj => hj) (fun j g a hj => ?_) (fun L g hg hd => hg.2.1 20 (hd 20 (by decide))) (fun g hgl hF τ => ?_) ?_
          · rcases j with _ | _ | _ | _ | _ | _ | _ | _ | _ | _ | _ | _ | _ | _ | _ | _ | _ | _ | _ | _ | _ | _ | _ | _ | _ | _ | _ | _ | _ | _ | _ | _ | _ | _ | _ | _ | j
            all_goals first | rfl | (rcases g with _ | ⟨a0, _ | ⟨a1, _ | ⟨a2, _ | ⟨a3, g⟩⟩⟩⟩ <;> first | rfl | exact absurd hj (by decide) | exact absurd hj (by simp [List.getD]))
          · obtain ⟨a0, a1, rfl⟩ : ∃ a0 a1, g = [a0, a1] := by
              rcases g with _ | ⟨a0, _ | ⟨a1, _ | ⟨a2, _ | ⟨a3, g⟩⟩⟩⟩ <;> first | exact ⟨_, _, rfl⟩ | rfl | (exfalso; simp only [List.length_cons, List.length_nil] at hgl; omega)
            refine xo_bs1 T_ rfl rfl rfl rfl rfl rfl rfl rfl (fun b84 => ?_)
            exact xo_finE ⟨b84, 0, none⟩ rfl trivial
          refine DrawE.pure 3 3 rfl (.inl rfl) (fun L g hg hd => hg.2.1 21 (hd 21 (by decide))) (fun g hlo hhi hF τ => ?_) ?_
          · rcases g with _ | ⟨a0, _ | ⟨a1, _ | ⟨a2, _ | ⟨a3, g⟩⟩⟩⟩
            all_goals first
              | (simp only [lenC, lenN] at hlo hhi; omega)
              | (refine ⟨_, rfl, ?_⟩
                 (first | refine xoN ?_ | refine xo_callB (fs := []) (cs := []) rfl rfl rfl in_enters rfl (fun w1 hw1 => in_calls hw1 1 6 m.f1 (by repeat first | exact mH | apply mT | apply mA)) ?_)
                 first
                   | exact xo_fin (congrArg Value.bool m3)
                   | exact xoF)
          refine DrawE.pure 3 3 rfl (.inl rfl) (fun L g hg hd => hg.2.1 22 (hd 22 (by decide))) (fun g hlo hhi hF τ => ?_) ?_
          · rcases g with _ | ⟨a0, _ | ⟨a1, _ | ⟨a2, _ | ⟨a3, g⟩⟩⟩⟩ <;> first | (simp only [lenC, lenN] at hlo hhi; omega) | (refine ⟨_, rfl, ?_⟩; (first | refine xoN ?_ | (refine xo_notOp rfl rfl rfl ?_)); exact xoF)
          refine DrawE.pure 3 3 rfl (.inl rfl) (fun L g hg hd => hg.2.1 23 (hd 23 (by decide))) (fun g hlo hhi hF τ => ?_) ?_
          · rcases g with _ | ⟨a0, _ | ⟨a1, _ | ⟨a2, _ | ⟨a3, g⟩⟩⟩⟩ <;> first | (simp only [lenC, lenN] at hlo hhi; omega) | (refine ⟨_, rfl, ?_⟩; (first | refine xo_pickT rfl rfl rfl rfl ?_ | refine xo_pickF rfl rfl rfl rfl ?_); exact xoF)
          refine DrawE.pure 3 3 rfl (.inl rfl) (fun L g hg hd => hg.2.1 24 (hd 24 (by decide))) (fun g hlo hhi hF τ => ?_) ?_
          · rcases g with _ | ⟨a0, _ | ⟨a1, _ | ⟨a2, _ | ⟨a3, g⟩⟩⟩⟩ <;> first | (simp only [lenC, lenN] at hlo hhi; omega) | (refine ⟨_, rfl, ?_⟩; refine xoM ?_; exact xoF)
          refine DrawE.pure 3 3 rfl (.inl rfl) (fun L g hg hd => hg.2.1 25 (hd 25 (by decide))) (fun g hlo hhi hF τ => ?_) ?_
          · rcases g with _ | ⟨a0, _ | ⟨a1, _ | ⟨a2, _ | ⟨a3, g⟩⟩⟩⟩ <;> first | (simp only [lenC, lenN] at hlo hhi; omega) | (refine ⟨_, rfl, ?_⟩; (first | refine xoN ?_ | (refine xo_callB (fs := []) (cs := []) rfl rfl rfl kinds_enters rfl (fun w1 hw1 => kinds_calls w1) ?_)); exact xoF)
          refine DrawE.pure 3 3 rfl (.inl rfl) (fun L g hg hd => hg.2.1 25 (hd 25 (by decide))) (fun g hlo hhi hF τ => ?_) ?_
          · rcases g with _ | ⟨a0, _ | ⟨a1, _ | ⟨a2, _ | ⟨a3, g⟩⟩⟩⟩ <;> first | (simp only [lenC, lenN] at hlo hhi; omega) | (refine ⟨_, rfl, ?_⟩; (first | refine xoN ?_ | (refine xo_fa T_ rfl rfl rfl rfl rfl ?_)); exact xoF)
          refine DrawE.pure 3 3 rfl (.inl rfl) (fun L g hg hd => hg.2.1 27 (hd 27 (by decide))) (fun g hlo hhi hF τ => ?_) ?_
          · rcases g with _ | ⟨a0, _ | ⟨a1, _ | ⟨a2, _ | ⟨a3, g⟩⟩⟩⟩ <;> first | (simp only [lenC, lenN] at hlo hhi; omega) | (refine ⟨_, rfl, ?_⟩; (first | refine xoN ?_ | (refine xo_load0 T_ rfl rfl rfl (by repeat first | exact mH | apply mT | apply mA) rfl rfl ?_)); exact xoF)
          refine DrawE.pure 3 3 rfl (.inl rfl) (fun L g hg hd => hg.2.1 26 (hd 26 (by decide))) (fun g hlo hhi hF τ => ?_) ?_
          · rcases g with _ | ⟨a0, _ | ⟨a1, _ | ⟨a2, _ | ⟨a3, g⟩⟩⟩⟩ <;> first | (simp only [lenC, lenN] at hlo hhi; omega) | (refine ⟨_, rfl, ?_⟩; (first | refine xoN ?_ | (refine xo_ixV rfl rfl rfl (fun w => kinds_ix ⟨by omega, by omega⟩ w) rfl ?_)); exact xoF)
          refine DrawE.pure 3 3 rfl (.inl rfl) (fun L g hg hd => hg.2.1 29 (hd 29 (by decide))) (fun g hlo hhi hF τ => ?_) ?_
          · rcases g with _ | ⟨a0, _ | ⟨a1, _ | ⟨a2, _ | ⟨a3, g⟩⟩⟩⟩ <;> first | (simp only [lenC, lenN] at hlo hhi; omega) | (refine ⟨_, rfl, ?_⟩; (first | refine xoN ?_ | (refine xo_fldV rfl rfl (fun w => kinds_f0 _ _ w) rfl ?_)); exact xoF)
          refine DrawE.pure 3 3 rfl (.inl rfl) (fun L g hg hd => hg.2.1 25 (hd 25 (by decide))) (fun g hlo hhi hF τ => ?_) ?_
          · rcases g with _ | ⟨a0, _ | ⟨a1, _ | ⟨a2, _ | ⟨a3, g⟩⟩⟩⟩ <;> first | (simp only [lenC, lenN] at hlo hhi; omega) | (refine ⟨_, rfl, ?_⟩; (first | refine xoN ?_ | (refine xo_loadN T_ rfl rfl rfl (by repeat first | exact mH | apply mT | apply mA) rfl rfl ?_)); exact xoF)
          refine DrawE.pure 3 3 rfl (.inl rfl) (fun L g hg hd => hg.2.1 25 (hd 25 (by decide))) (fun g hlo hhi hF τ => ?_) ?_
          · rcases g with _ | ⟨a0, _ | ⟨a1, _ | ⟨a2, _ | ⟨a3, g⟩⟩⟩⟩ <;> first | (simp only [lenC, lenN] at hlo hhi; omega) | (refine ⟨_, rfl, ?_⟩; (first | refine xoN ?_ | (refine xo_loadN T_ rfl rfl rfl (by repeat first | exact mH | apply mT | apply mA) rfl rfl ?_)); exact xoF)
          refine DrawE.pure 3 3 rfl (.inl rfl) (fun L g hg hd => hg.2.1 30 (hd 30 (by decide))) (fun g hlo hhi hF τ => ?_) ?_
          · rcases g with _ | ⟨a0, _ | ⟨a1, _ | ⟨a2, _ | ⟨a3, g⟩⟩⟩⟩
            all_goals first
              | (simp only [lenC, lenN] at hlo hhi; omega)
              | (refine ⟨_, rfl, ?_⟩
                 (first | refine xoN ?_ | refine xo_callB (fs := []) (cs := []) rfl rfl rfl (right_enters hk6) rfl (fun w1 hw1 => right_calls R E A (some ad) gs.length c ms.length c2 m w1 hR hk6) ?_)
                 first
                   | exact xo_fin (congrArg Value.bool m4)
                   | exact xoF)
          refine DrawE.pure 3 3 rfl (.inl rfl) (fun L g hg hd => hg.2.1 33 (hd 33 (by decide))) (fun g hlo hhi hF τ => ?_) ?_
          · rcases g with _ | ⟨a0, _ | ⟨a1, _ | ⟨a2, _ | ⟨a3, g⟩⟩⟩⟩ <;> first | (simp only [lenC, lenN] at hlo hhi; omega) | (refine ⟨_, rfl, ?_⟩; (first | refine xoN ?_ | (refine xo_notOp rfl rfl rfl ?_)); exact xoF)
          refine DrawE.pure 3 3 rfl (.inl rfl) (fun L g hg hd => hg.2.1 25 (hd 25 (by decide))) (fun g hlo hhi hF τ => ?_) ?_
          · rcases g with _ | ⟨a0, _ | ⟨a1, _ | ⟨a2, _ | ⟨a3, g⟩⟩⟩⟩ <;> first | (simp only [lenC, lenN] at hlo hhi; omega) | (refine ⟨_, rfl, ?_⟩; (first | refine xo_pickT rfl rfl rfl rfl ?_ | refine xo_pickF rfl rfl rfl rfl ?_); exact xoF)
          exact DrawE.nil
        intro g hgl hF
        obtain ⟨a0, a1, a2, rfl⟩ : ∃ a0 a1 a2, g = [a0, a1, a2] := by
          rcases g with _ | ⟨a0, _ | ⟨a1, _ | ⟨a2, _ | ⟨a3, g⟩⟩⟩⟩ <;> first | exact ⟨_, _, _, rfl⟩ | (exfalso; simp only [List.length_cons, List.length_nil] at hgl; omega)
        with_reducible (repeat first | apply xqT | apply xqB | apply xqS)
        refine xc_slots [(1, .pointer (some ⟨b1, 0, none⟩)), (2, .int .i64 0), (5, .int .i64 last), (7, .pointer (some ⟨b7, 0, none⟩)), (74, .slice (some ad) ms.length c2), (75, .int .i64 (ms.length : Int)), (76, .int .i64 (k : Int)), (115, .bool false)] ⟨rfl, rfl, rfl, rfl, rfl, rfl, rfl, rfl, trivial⟩ ?_
        with_reducible (repeat apply xc_seq)
        refine xc_condF rfl ?_
        with_reducible (apply xc_skip; (repeat first | apply xqT | apply xqB | apply xqS); (repeat apply xc_seq); apply xcR)
        refine xo_fa T_ rfl rfl rfl rfl rfl ?_
        refine xo_load0 T_ rfl rfl rfl (by repeat first | exact mH | apply mT | apply mA) rfl rfl ?_
        refine xoA ?_
        with_reducible (apply xo_nil; (repeat first | apply xqT | apply xqB | apply xqS); (repeat apply xc_seq); apply xcR)
        refine xo_add rfl rfl rfl (by omega) rfl ?_
        refine xoM ?_
        with_reducible (apply xo_nil; (repeat first | apply xqT | apply xqB | apply xqS))
        exact xq_again _ _ _ _ _ (k + 1) ⟨by omega, by rw [hls]; omega, by rw [hls]; simpa using hmk⟩ (by omega) ⟨rfl, rfl, by rw [hls]; rfl, rfl, rfl, rfl, trivial⟩ (by repeat (first | exact List.Sublist.refl _ | apply List.Sublist.cons_cons | apply List.Sublist.cons | exact List.nil_sublist _))
      · have hge : ¬ k < ms.length := by have := of_decide_eq_false h; omega
        rw [List.drop_eq_nil_of_le (by omega)] at hmk
        with_reducible (apply xc_exit; (repeat (first | apply xq_blockX | apply xq_thenE | refine xq_blockE rfl ?_ | apply xq_scopeE)); (repeat first | apply xqT | apply xqB | apply xqS); (repeat apply xc_seq); apply xcR)
        refine xoA ?_
        with_reducible (apply xo_nil; (repeat first | apply xqT | apply xqB | apply xqS); (repeat apply xc_seq); apply xc_ret; (repeat (first | apply xq_thenR | apply xq_blockR | apply xq_scopeR)))
        exact xq_ret1 rfl rfl fun w' hw => ⟨by rw [checkF, hsc, hmk]; rfl, hw.kx.below⟩
end Go.Proofs.YtommeljlfkmpjaaDoor
