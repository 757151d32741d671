/- SX: a drawn region whose values the steps themselves find. No program in sight. -/
import Derived.Test.YtcmepdamemnbkaaSI
namespace Go.Proofs.Ytcmepdamemnbkaa
open Go.RowKit
set_option linter.unusedVariables false
section
variable {P : Program} {ro : Option Nat} {n N : Nat} {ds : List Deferred} {w0 : World} {X : Nat → Prop} {Q : Exit → Act → World → Prop} {σ : Slots} {η : Hp}
theorem DrawOps.nil {ops : List Oper} {vs : List Value} : DrawOps P ro n N ds w0 X ops vs σ η [] [] := trivial
theorem DrawOps.cons {ops : List Oper} {vs : List Value} {o : Oper} {r : List Oper} {v : Value} {vr : List Value} (h : ∀ τ, XO P ro n N ds w0 X (OnePost N ds w0 X η (putS o.dst v (flatS ops vs (depOf o) σ ++ τ))) ops (flatS ops vs (depOf o) σ ++ τ) η [o])
    (t : DrawOps P ro n N ds w0 X ops vs σ η r vr) : DrawOps P ro n N ds w0 X ops vs σ η (o :: r) (v :: vr) := ⟨h, t⟩
theorem xc_drawN {id : Nat} {ops : List Oper} {vs : List Value} (hmix : P.follows .mixedOrders = true) (hbind : ops.all (fun o => o.after.toList.all (Region.binds .any)) = true) (hdeps : depsB 0 ops = true) (hdist : distB (dstsOf_ ops) = true) (hfresh : freshB σ (dstsOf_ ops) = true)
    (hop : DrawOps P ro n N ds w0 X ops vs σ η ops vs) (hlen : Nat.beq vs.length ops.length = true) (hQ : XQ N ds w0 X Q .normal (flatS ops vs (List.range ops.length) σ) η) : XC P ro n N ds w0 X Q σ η (.region id ops.toArray true) :=
  xc_draw vs hmix hlen hbind hdeps hdist hfresh hop hQ
theorem xo_fin {ops : List Oper} {d : Option Tmp} {u v : Value} (e : u = v) : XO P ro n N ds w0 X (OnePost N ds w0 X η (putS d v σ)) ops (putS d u σ) η [] := by
  subst e
  exact xo_nil fun a w ha hw => ⟨ha, hw⟩
end
theorem RO.fld {w : World} {X : Nat → Prop} {p : Addr} {cs : List Value} {j : Nat} {v : Value} (h : RO w X p cs) (hj : cs[j]? = some v) : RO w X (p.add j) [v] := fun i u hi => by
  cases i with
  | zero => simp at hi; subst hi; rw [Addr.add_zero']; exact h j _ hj
  | succ i => simp at hi
theorem or2 (b : Bool) : b = true ∨ b = false := by cases b <;> simp
end Go.Proofs.Ytcmepdamemnbkaa
