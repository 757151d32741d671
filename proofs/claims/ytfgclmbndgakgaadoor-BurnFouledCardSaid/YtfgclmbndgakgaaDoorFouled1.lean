/- A call of a function value that captures a variable, in a region (drawn, or not); and what the law's own function value does: how dark a light is. -/
import Derived.Test.YtfgclmbndgakgaaDoorDark
import Derived.Test.YtfgclmbndgakgaaDoorWTab
import Derived.Test.YtfgclmbndgakgaaDoorWMore
namespace Go.Proofs.YtfgclmbndgakgaaDoor
open Go.RowKit Go.Proofs.YtfgclmbndgakgaaDoorW.PrintWords Go.Proofs.YtfgclmbndgakgaaDoorW.PrintLast Go.Proofs.YtfgclmbndgakgaaDoorW.PrintMore
set_option linter.unusedVariables false
set_option linter.unusedSimpArgs false
section clo
variable {P : Program} {ops : Array Oper} {Q : Exit → Act → World → Prop}
theorem gate_calleeT {o : Oper} {rest : List Oper} {a : Act} {W : World} {t : Tmp} {xs : Array Operand} {ts : Array TypeId} (_ho : o.op = .call { callee := .value (.tmp t), args := xs, argTypes := ts }) (h : wpList P ops Q (o :: rest) a W) : wpList P ops Q (o :: rest) a W := h
theorem goesC_ {oi : Oper} {N : Option Tmp} {a : Act} {w : World} {K : Act → World → Prop} {f : FuncId} {fn : Func} {t : Tmp} {cap : Array Value} {xs : Array Operand} {ts : Array TypeId} (hf : P.funcs[f]? = some fn) (hname : (fn.name == "runtime.NumGoroutine") = false) (hb : fn.body.isSome = true) (args : Array Value)
    (hw : Region.wanted oi (yielded ops a.tmps) = true) (hN : oi.dst = N) (hop : oi.op = .call { callee := .value (.tmp t), args := xs, argTypes := ts }) (hv : a.eval (.tmp t) = .func (.func f) #[] cap) (hargs : xs.map a.eval ++ cap = args)
    (h : Calls P f args w fun e w' => ∃ v, e = .returned v ∧ K (a.put N v) w') : if Region.wanted oi (yielded ops a.tmps) = true then Oper.wp P oi a w K Q else K (a.put N undef) w := by
  refine call_ f args hw hN ?_ h
  have he := enters_ hf hname hb args w
  unfold execOp
  simp [hop, resolve, Deferred.ofValue, invoke, hv, hargs, he]
theorem goesLC_ {rest : List Oper} {oi : Oper} {a : Act} {w : World} (N : Option Tmp) (hd : oi.dst = N) (hg : oi.guard = none) {f : FuncId} {fn : Func} {t : Tmp} {cap : Array Value} {xs : Array Operand} {ts : Array TypeId} (hf : P.funcs[f]? = some fn) (hname : (fn.name == "runtime.NumGoroutine") = false) (hb : fn.body.isSome = true) (args : Array Value)
    (hop : oi.op = .call { callee := .value (.tmp t), args := xs, argTypes := ts }) (hv : a.eval (.tmp t) = .func (.func f) #[] cap) (hargs : xs.map a.eval ++ cap = args)
    (h : Calls P f args w fun e w' => ∃ v, e = .returned v ∧ wpList P ops Q rest (a.put N v) w') : wpList P ops Q (oi :: rest) a w := by
  refine wpList_plain hg fun K hK => ?_
  have he := enters_ hf hname hb args w
  have hrun : (execOp a.eval oi).run P w = .ok (.enter f args) w := by
    unfold execOp
    simp [hop, resolve, Deferred.ofValue, invoke, hv, hargs, he]
  unfold Oper.wp
  rw [hrun, Oper.upon_enter]
  refine h.mono fun e w'' hh => ?_
  obtain ⟨v, rfl, hk⟩ := hh
  subst hd
  exact hK _ _ hk
end clo
def cottonpadlaw04_BurnFouled_1.f (i x : Int) (l : List Int) : Option Int := if 0 ≤ i then (if i < (l.length : Int) then (if x = 0 then none else some (dkF (rd l i) x)) else none) else none
set_option maxHeartbeats 1000000 in
theorem cottonpadlaw04_BurnFouled_1.calls (i x : Int) (A : Option Addr) (c : Nat) (l : List Int) (r : Int) (w : World) (hr : Kd.C (Kd.int .i64) w A l.length l) (hc : l.length ≤ c) (h : cottonpadlaw04_BurnFouled_1.f i x l = some r) (g : Nat)
    (hg : w.cell? ⟨g, 0, none⟩ = some (.slice A l.length c)) :
    Calls Tryd.prog 38 #[.int .i64 i, .int .i64 x, .pointer (some ⟨g, 0, none⟩)] w fun e w' => e = .returned (.int .i64 r) ∧ Drawn0 w w' := by
  unfold cottonpadlaw04_BurnFouled_1.f at h
  by_cases g0 : 0 ≤ i
  · rw [if_pos g0] at h
    by_cases g1 : i < (l.length : Int)
    · rw [if_pos g1] at h
      by_cases g2 : x = 0
      · rw [if_pos g2] at h; simp at h
      · rw [if_neg g2] at h
        obtain rfl := Option.some.inj h
        obtain ⟨ad, rfl, hel⟩ := Kd.at_int hr i g0 g1
        generalize rd l i = y at *
        generalize l.length = n at *
        clear hr h hc
        go_enter Tryd.func38, Tryd.ntmps38
        go_wp2
        go_ret
        exact ⟨by simp [dkF], 0, rfl⟩
    · rw [if_neg g1] at h; simp at h
  · rw [if_neg g0] at h; simp at h
end Go.Proofs.YtfgclmbndgakgaaDoor
