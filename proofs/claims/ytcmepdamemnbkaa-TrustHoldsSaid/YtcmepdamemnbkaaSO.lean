/- SX: the operations, a rule each. No program in sight. -/
import Derived.Test.YtcmepdamemnbkaaSX
namespace Go.Proofs.Ytcmepdamemnbkaa
open Go.RowKit Go.MapKept
attribute [local go_sem] Oper.semAt_some
set_option linter.unusedVariables false
set_option linter.unusedSimpArgs false

def nthD : Nat → List Oper → Option Tmp
  | _, [] => none
  | 0, o :: _ => o.dst
  | j + 1, _ :: r => nthD j r
def eqB : Bool → Bool → Bool
  | true, w => w
  | false, true => false
  | false, false => true
/-- is an operation wanted? -/
def gS (ops : List Oper) (σ : Slots) : Option (Nat × Bool) → Option Bool
  | none => some true
  | some (j, want) => match nthD j ops with
    | some d => match slot d σ with
      | some (.bool b) => some (eqB b want)
      | some _ => some false
      | none => none
    | none => none
theorem nthD_eq : ∀ (j : Nat) (l : List Oper), nthD j l = (l[j]?).bind (·.dst)
  | _, [] => by simp [nthD]
  | 0, o :: _ => rfl
  | j + 1, _ :: r => by simp [nthD, nthD_eq j r]
def nth {α : Type} : Nat → List α → Option α
  | _, [] => none
  | 0, x :: _ => some x
  | j + 1, _ :: r => nth j r
theorem nth_eq {α : Type} : ∀ (j : Nat) (l : List α), nth j l = l[j]?
  | _, [] => by simp [nth]
  | 0, o :: _ => rfl
  | j + 1, _ :: r => by simp [nth, nth_eq j r]
/-- some cells, from a place on -/
def seg : Nat → Nat → List Value → Option (List Value)
  | 0, 0, _ => some []
  | 0, n + 1, v :: r => match seg 0 n r with
    | some vs => some (v :: vs)
    | none => none
  | o + 1, n, _ :: r => seg o n r
  | _, _, [] => none
theorem seg_get : ∀ (o n : Nat) (cs vs : List Value), seg o n cs = some vs → vs.length = n ∧ ∀ j v, vs[j]? = some v → cs[o + j]? = some v
  | 0, 0, cs, vs, h => by unfold seg at h; cases h; simp
  | 0, n + 1, [], vs, h => by simp [seg] at h
  | 0, n + 1, x :: r, vs, h => by
    unfold seg at h
    split at h
    · rename_i ws hw
      cases h
      have ih := seg_get 0 n r ws hw
      refine ⟨by simp [ih.1], fun j v hj => ?_⟩
      cases j with
      | zero => simpa using hj
      | succ j => have := ih.2 j v (by simpa using hj); simpa using this
    · cases h
  | o + 1, n, [], vs, h => by cases n <;> simp [seg] at h
  | o + 1, n, x :: r, vs, h => by
    have h' : seg o n r = some vs := by cases n <;> simpa [seg] using h
    have ih := seg_get o n r vs h'
    refine ⟨ih.1, fun j v hj => ?_⟩
    have := ih.2 j v hj
    rw [show o + 1 + j = (o + j) + 1 from by omega]
    simpa using this
/-- cells written over, from a place on -/
def setSeg : Nat → List Value → List Value → Option (List Value)
  | 0, [], cs => some cs
  | 0, v :: vs, _ :: r => match setSeg 0 vs r with
    | some r' => some (v :: r')
    | none => none
  | o + 1, vs, x :: r => match setSeg o vs r with
    | some r' => some (x :: r')
    | none => none
  | _, _, [] => none

section
variable {P : Program} {ro : Option Nat} {n N : Nat} {ds : List Deferred} {w0 : World} {X : Nat → Prop} {Q : Exit → Act → World → Prop} {ops : List Oper} {σ : Slots} {η : Hp} {rest : List Oper}
variable {d : Option Tmp} {ty : TypeId} {pos : String} {aft : Array Edge} {g : Option (Nat × Bool)}

theorem wanted_of {a : Act} (ha : SOK N ds σ a) {o : Oper} {b : Bool} (h : gS ops σ o.guard = some b) : Region.wanted o (yielded ops.toArray a.tmps) = b := by
  unfold gS at h
  unfold Region.wanted
  split at h
  · rename_i hg
    cases h
    rw [hg]
  · rename_i j want hg
    rw [hg]
    split at h
    · rename_i dd hd
      split at h
      · rename_i bb hs
        cases h
        have h1 := ha.sl _ _ hs
        rw [nthD_eq] at hd
        have hd' : (ops.toArray[j]?).bind (·.dst) = some dd := by simpa using hd
        simp only [yielded, hd', Option.bind_some, h1]
        cases bb <;> cases want <;> rfl
      · rename_i v hnb hs
        cases h
        have h1 := ha.sl _ _ hs
        rw [nthD_eq] at hd
        have hd' : (ops.toArray[j]?).bind (·.dst) = some dd := by simpa using hd
        simp only [yielded, hd', Option.bind_some, h1]
        cases v <;> first | rfl | exact absurd rfl (hnb _)
      · cases h
    · cases h

theorem xo_nil (h : XQ N ds w0 X Q .normal σ η) : XO P ro n N ds w0 X Q ops σ η [] := fun a w ha hw => h a w ha hw
theorem xo_base {o : Oper} (hd : isDefer o.op = false) (hg : gS ops σ o.guard = some true)
    (h : ∀ a w, SOK N ds σ a → WOK w0 X η w → ∃ nx w' v, (execOp a.eval o).run P w = .ok nx w' ∧ (nx = .value v ∨ (nx = .skip ∧ v = undef)) ∧ wpListIn (wideR ro) n P ops.toArray Q rest (a.put o.dst v) w') :
    XO P ro n N ds w0 X Q ops σ η (o :: rest) := by
  intro a w ha hw
  unfold wpListIn
  rw [if_pos (wanted_of ha hg)]
  refine ⟨fun _ _ => trivial, ?_⟩
  have hd' : ∀ c, o.op ≠ .defer c := fun c e => by rw [e] at hd; simp [isDefer] at hd
  rw [show (wideR ro).round = ro from rfl, Oper.semAt_eq ro _ _ hd']
  obtain ⟨nx, w', v, hr, hn, hk⟩ := h a w ha hw
  rw [hr]
  rcases hn with rfl | ⟨rfl, rfl⟩
  · exact hk
  · exact hk
/-- an operation that isn't wanted -/
theorem xo_not {o : Oper} (hg : gS ops σ o.guard = some false) (hN : dstOK N o.dst = true) (h : XO P ro n N ds w0 X Q ops (putS o.dst undef σ) η rest) : XO P ro n N ds w0 X Q ops σ η (o :: rest) := by
  intro a w ha hw
  unfold wpListIn
  rw [if_neg (by rw [wanted_of ha hg]; simp)]
  exact ⟨fun _ _ => trivial, h _ _ (ha.put hN _) hw⟩
theorem xo_val {o : Oper} (v : Value) (hd : isDefer o.op = false) (hg : gS ops σ o.guard = some true) (hN : dstOK N o.dst = true) (hrun : ∀ a w, SOK N ds σ a → WOK w0 X η w → (execOp a.eval o).run P w = .ok (.value v) w)
    (h : XO P ro n N ds w0 X Q ops (putS o.dst v σ) η rest) : XO P ro n N ds w0 X Q ops σ η (o :: rest) :=
  xo_base hd hg fun a w ha hw => ⟨_, w, v, hrun a w ha hw, .inl rfl, h _ _ (ha.put hN v) hw⟩
/-- both ways of what a slot holds -/
theorem xo_split {i : Tmp} {b : Bool} (hb : slot i σ = some (.bool b)) (hN : Nat.blt i N = true) (ht : b = true → XO P ro n N ds w0 X Q ops ((i, .bool true) :: σ) η rest) (hf : b = false → XO P ro n N ds w0 X Q ops ((i, .bool false) :: σ) η rest) :
    XO P ro n N ds w0 X Q ops σ η rest := by
  intro a w ha hw
  have key : SOK N ds ((i, .bool b) :: σ) a := by
    refine ⟨ha.sz, fun j v hj => ?_, ha.df⟩
    unfold slot at hj
    cases hq : Nat.beq i j with
    | true =>
      have e := Nat.eq_of_beq_eq_true hq
      simp only [hq, cond_true, Option.some.injEq] at hj
      subst e
      subst hj
      exact ha.sl _ _ hb
    | false =>
      simp only [hq, cond_false] at hj
      exact ha.sl _ _ hj
  cases b with
  | true => exact ht rfl a w key hw
  | false => exact hf rfl a w key hw
/-- what a slot holds, told otherwise -/
theorem xo_as {i : Tmp} {u v : Value} (hb : slot i σ = some u) (e : u = v) (h : XO P ro n N ds w0 X Q ops ((i, v) :: σ) η rest) : XO P ro n N ds w0 X Q ops σ η rest := by
  intro a w ha hw
  refine h a w ⟨ha.sz, fun j z hj => ?_, ha.df⟩ hw
  unfold slot at hj
  cases hq : Nat.beq i j with
  | true =>
    have e' := Nat.eq_of_beq_eq_true hq
    simp only [hq, cond_true, Option.some.injEq] at hj
    subst e'
    subst hj
    exact e ▸ ha.sl _ _ hb
  | false =>
    simp only [hq, cond_false] at hj
    exact ha.sl _ _ hj

theorem xo_mv {x : Operand} {v : Value} (hg : gS ops σ g = some true) (hx : ev σ x = some v) (hN : dstOK N d = true) (h : XO P ro n N ds w0 X Q ops (putS d v σ) η rest) : XO P ro n N ds w0 X Q ops σ η (⟨d, .move x, ty, pos, aft, g⟩ :: rest) :=
  xo_val v rfl hg hN (fun a w ha hw => by simp only [execOp, ha.ev hx]; rfl) h
theorem xo_asg {x : Operand} {v : Value} (hg : gS ops σ g = some true) (hx : ev σ x = some v) (hN : dstOK N d = true) (h : XO P ro n N ds w0 X Q ops (putS d v σ) η rest) : XO P ro n N ds w0 X Q ops σ η (⟨d, .assign x, ty, pos, aft, g⟩ :: rest) :=
  xo_val v rfl hg hN (fun a w ha hw => by simp only [execOp, ha.ev hx]; rfl) h
theorem xo_pickT {c x y : Operand} {v : Value} (hg : gS ops σ g = some true) (hc : ev σ c = some (.bool true)) (hx : ev σ x = some v) (hN : dstOK N d = true) (h : XO P ro n N ds w0 X Q ops (putS d v σ) η rest) : XO P ro n N ds w0 X Q ops σ η (⟨d, .pick c x y, ty, pos, aft, g⟩ :: rest) :=
  xo_val v rfl hg hN (fun a w ha hw => by simp [execOp, ha.ev hc, ha.ev hx, asBool]) h
theorem xo_pickF {c x y : Operand} {v : Value} (hg : gS ops σ g = some true) (hc : ev σ c = some (.bool false)) (hx : ev σ y = some v) (hN : dstOK N d = true) (h : XO P ro n N ds w0 X Q ops (putS d v σ) η rest) : XO P ro n N ds w0 X Q ops σ η (⟨d, .pick c x y, ty, pos, aft, g⟩ :: rest) :=
  xo_val v rfl hg hN (fun a w ha hw => by simp [execOp, ha.ev hc, ha.ev hx, asBool]) h
theorem xo_notOp {x : Operand} {t : TypeId} {b : Bool} (hg : gS ops σ g = some true) (hx : ev σ x = some (.bool b)) (hN : dstOK N d = true) (h : XO P ro n N ds w0 X Q ops (putS d (.bool (!b)) σ) η rest) : XO P ro n N ds w0 X Q ops σ η (⟨d, .unOp .not t x, ty, pos, aft, g⟩ :: rest) :=
  xo_val _ rfl hg hN (fun a w ha hw => by simp only [execOp, ha.ev hx]; rfl) h
section
variable {t t' : TypeId} {x y : Operand} {k : IntKind} {a b : Int}
theorem xo_lss (hg : gS ops σ g = some true) (hx : ev σ x = some (.int k a)) (hy : ev σ y = some (.int k b)) (hN : dstOK N d = true) (h : XO P ro n N ds w0 X Q ops (putS d (.bool (decide (a < b))) σ) η rest) : XO P ro n N ds w0 X Q ops σ η (⟨d, .binOp .lss t x y t', ty, pos, aft, g⟩ :: rest) :=
  xo_val _ rfl hg hN (fun _ w ha hw => by simp [execOp, ha.ev hx, ha.ev hy, eqGuard_lss, binOp_lss]) h
theorem xo_leq (hg : gS ops σ g = some true) (hx : ev σ x = some (.int k a)) (hy : ev σ y = some (.int k b)) (hN : dstOK N d = true) (h : XO P ro n N ds w0 X Q ops (putS d (.bool (decide (a ≤ b))) σ) η rest) : XO P ro n N ds w0 X Q ops σ η (⟨d, .binOp .leq t x y t', ty, pos, aft, g⟩ :: rest) :=
  xo_val _ rfl hg hN (fun _ w ha hw => by simp [execOp, ha.ev hx, ha.ev hy, eqGuard_leq, binOp_leq]) h
theorem xo_gtr (hg : gS ops σ g = some true) (hx : ev σ x = some (.int k a)) (hy : ev σ y = some (.int k b)) (hN : dstOK N d = true) (h : XO P ro n N ds w0 X Q ops (putS d (.bool (decide (b < a))) σ) η rest) : XO P ro n N ds w0 X Q ops σ η (⟨d, .binOp .gtr t x y t', ty, pos, aft, g⟩ :: rest) :=
  xo_val _ rfl hg hN (fun _ w ha hw => by simp [execOp, ha.ev hx, ha.ev hy, eqGuard_gtr, binOp_gtr]) h
theorem xo_geq (hg : gS ops σ g = some true) (hx : ev σ x = some (.int k a)) (hy : ev σ y = some (.int k b)) (hN : dstOK N d = true) (h : XO P ro n N ds w0 X Q ops (putS d (.bool (decide (b ≤ a))) σ) η rest) : XO P ro n N ds w0 X Q ops σ η (⟨d, .binOp .geq t x y t', ty, pos, aft, g⟩ :: rest) :=
  xo_val _ rfl hg hN (fun _ w ha hw => by simp [execOp, ha.ev hx, ha.ev hy, eqGuard_geq, binOp_geq]) h
theorem xo_eql (hg : gS ops σ g = some true) (hx : ev σ x = some (.int k a)) (hy : ev σ y = some (.int k b)) (hN : dstOK N d = true) (h : XO P ro n N ds w0 X Q ops (putS d (.bool (decide (a = b))) σ) η rest) : XO P ro n N ds w0 X Q ops σ η (⟨d, .binOp .eql t x y t', ty, pos, aft, g⟩ :: rest) :=
  xo_val _ rfl hg hN (fun _ w ha hw => by simp [execOp, ha.ev hx, ha.ev hy, eqGuard_at_int, binOp_eql]; rfl) h
theorem xo_neq (hg : gS ops σ g = some true) (hx : ev σ x = some (.int k a)) (hy : ev σ y = some (.int k b)) (hN : dstOK N d = true) (h : XO P ro n N ds w0 X Q ops (putS d (.bool (!decide (a = b))) σ) η rest) : XO P ro n N ds w0 X Q ops σ η (⟨d, .binOp .neq t x y t', ty, pos, aft, g⟩ :: rest) :=
  xo_val _ rfl hg hN (fun _ w ha hw => by simp [execOp, ha.ev hx, ha.ev hy, eqGuard_at_int, binOp_neq]; rfl) h
theorem xo_add (hg : gS ops σ g = some true) (hx : ev σ x = some (.int .i64 a)) (hy : ev σ y = some (.int .i64 b)) (hb : -9223372036854775808 ≤ a + b ∧ a + b ≤ 9223372036854775807) (hN : dstOK N d = true) (h : XO P ro n N ds w0 X Q ops (putS d (.int .i64 (a + b)) σ) η rest) : XO P ro n N ds w0 X Q ops σ η (⟨d, .binOp .add t x y t', ty, pos, aft, g⟩ :: rest) :=
  xo_val _ rfl hg hN (fun _ w ha hw => by simp [execOp, ha.ev hx, ha.ev hy, eqGuard_add, binOp_add, Op.intArith, IntWalk.i64_in _ hb]) h
theorem xo_sub (hg : gS ops σ g = some true) (hx : ev σ x = some (.int .i64 a)) (hy : ev σ y = some (.int .i64 b)) (hb : -9223372036854775808 ≤ a - b ∧ a - b ≤ 9223372036854775807) (hN : dstOK N d = true) (h : XO P ro n N ds w0 X Q ops (putS d (.int .i64 (a - b)) σ) η rest) : XO P ro n N ds w0 X Q ops σ η (⟨d, .binOp .sub t x y t', ty, pos, aft, g⟩ :: rest) :=
  xo_val _ rfl hg hN (fun _ w ha hw => by simp [execOp, ha.ev hx, ha.ev hy, eqGuard_sub, binOp_sub, Op.intArith, IntWalk.i64_in _ hb]) h
theorem xo_mul (hg : gS ops σ g = some true) (hx : ev σ x = some (.int .i64 a)) (hy : ev σ y = some (.int .i64 b)) (hb : -9223372036854775808 ≤ a * b ∧ a * b ≤ 9223372036854775807) (hN : dstOK N d = true) (h : XO P ro n N ds w0 X Q ops (putS d (.int .i64 (a * b)) σ) η rest) : XO P ro n N ds w0 X Q ops σ η (⟨d, .binOp .mul t x y t', ty, pos, aft, g⟩ :: rest) :=
  xo_val _ rfl hg hN (fun _ w ha hw => by simp [execOp, ha.ev hx, ha.ev hy, eqGuard_mul, binOp_mul, Op.intArith, IntWalk.i64_in _ hb]) h
end
theorem look_ik (T : Tys P) {t : TypeId} {k : IntKind} (h : look t T.ik = some k) : P.underlying t = some (.int k) := T.hik _ (look_mem h)
theorem xo_conv (T : Tys P) {src dst : TypeId} {x : Operand} {k k' : IntKind} {a : Int} (hg : gS ops σ g = some true) (hs : look src T.ik = some k) (hdt : look dst T.ik = some k') (hx : ev σ x = some (.int k a)) (hb : k'.wrap a = a) (hN : dstOK N d = true) (h : XO P ro n N ds w0 X Q ops (putS d (.int k' a) σ) η rest) :
    XO P ro n N ds w0 X Q ops σ η (⟨d, .convert src dst x, ty, pos, aft, g⟩ :: rest) := by
  refine xo_val _ rfl hg hN (fun _ w ha hw => ?_) h
  have h1 := look_ik T hs
  have h2 := look_ik T hdt
  have hk : P.intKind dst = k' := by simp [Program.intKind, h2]
  have := run_convert_int (P := P) w src dst k a (by simp [h1]) (by rw [hk]; exact h2)
  rw [hk, hb] at this
  simp [execOp, ha.ev hx, this]
theorem xo_ext {x : Operand} {i : Nat} {vs : List Value} {v : Value} (hg : gS ops σ g = some true) (hx : ev σ x = some (.tuple vs.toArray)) (hi : nth i vs = some v) (hN : dstOK N d = true) (h : XO P ro n N ds w0 X Q ops (putS d v σ) η rest) : XO P ro n N ds w0 X Q ops σ η (⟨d, .extract x i, ty, pos, aft, g⟩ :: rest) :=
  xo_val v rfl hg hN (fun a w ha hw => by rw [nth_eq] at hi; simp [execOp, ha.ev hx, Instr.extract, hi]) h
theorem xo_mkf {fn : Fn} {first cap : List Operand} {vs us : List Value} (hg : gS ops σ g = some true) (h1 : evs σ first = some vs) (h2 : evs σ cap = some us) (hN : dstOK N d = true) (h : XO P ro n N ds w0 X Q ops (putS d (.func fn vs.toArray us.toArray) σ) η rest) : XO P ro n N ds w0 X Q ops σ η (⟨d, .makeFunc fn first.toArray cap.toArray, ty, pos, aft, g⟩ :: rest) :=
  xo_val _ rfl hg hN (fun a w ha hw => by simp [execOp, Instr.makeFunc, ha.evs h1, ha.evs h2]) h
theorem xo_fa (T : Tys P) {s : TypeId} {x : Operand} {f : Nat} {offs : List Nat} {off : Nat} {b o : Nat} (hg : gS ops σ g = some true) (hs : look s T.fo = some offs) (ho : nth f offs = some off) (hx : ev σ x = some (.pointer (some ⟨b, o, none⟩))) (hN : dstOK N d = true)
    (h : XO P ro n N ds w0 X Q ops (putS d (.pointer (some ⟨b, o + off, none⟩)) σ) η rest) : XO P ro n N ds w0 X Q ops σ η (⟨d, .fieldAddr s x f, ty, pos, aft, g⟩ :: rest) :=
  xo_val _ rfl hg hN (fun a w ha hw => by
    have := T.hfo _ (look_mem hs) f off (by rw [← nth_eq]; exact ho) ⟨b, o, none⟩ w
    rw [Addr.add_lit] at this
    simp [execOp, ha.ev hx, this]) h
/-- the field's place in what came in -/
theorem xo_faR (T : Tys P) {s : TypeId} {x : Operand} {f : Nat} {offs : List Nat} {off : Nat} {p : Addr} (hg : gS ops σ g = some true) (hs : look s T.fo = some offs) (ho : nth f offs = some off) (hx : ev σ x = some (.pointer (some p))) (hN : dstOK N d = true)
    (h : XO P ro n N ds w0 X Q ops (putS d (.pointer (some (p.add off))) σ) η rest) : XO P ro n N ds w0 X Q ops σ η (⟨d, .fieldAddr s x f, ty, pos, aft, g⟩ :: rest) :=
  xo_val _ rfl hg hN (fun a w ha hw => by
    have := T.hfo _ (look_mem hs) f off (by rw [← nth_eq]; exact ho) p w
    simp [execOp, ha.ev hx, this]) h
def szN (k : Nat) : Nat := bif Nat.beq k 0 then 1 else k
theorem xo_ia (T : Tys P) {t e : TypeId} {k0 : Nat} {x ix : Operand} {p : Addr} {len cap : Nat} {k : IntKind} {i : Int} (hg : gS ops σ g = some true) (he : look t T.el = some e) (hk : look e T.tk = some k0) (hx : ev σ x = some (.slice (some p) len cap)) (hi : ev σ ix = some (.int k i))
    (hb : 0 ≤ i ∧ i < (len : Int)) (hN : dstOK N d = true) (h : XO P ro n N ds w0 X Q ops (putS d (.pointer (some (p.add (i.toNat * szN k0)))) σ) η rest) : XO P ro n N ds w0 X Q ops σ η (⟨d, .indexAddr t x ix, ty, pos, aft, g⟩ :: rest) := by
  refine xo_val _ rfl hg hN (fun a w ha hw => ?_) h
  have h1 := T.hel _ (look_mem he)
  simp only at h1
  have h2 := (T.htk _ (look_mem hk)).2 w
  have hel : P.elem t = e := by simp [Program.elem, h1]
  have := run_indexAt_slice (P := P) w t p len cap k i (by rw [hel]; exact h1)
  rw [if_pos hb, hel, h2] at this
  simp only [Result.andThen_ok] at this
  simp [execOp, ha.ev hx, ha.ev hi, this, szN]
/-- cells that came in, and lie there still -/
def RO (w0 : World) (X : Nat → Prop) (p : Addr) (cs : List Value) : Prop := ∀ j v, cs[j]? = some v → w0.cell? (p.add j) = some v ∧ ¬ X (p.add j).block
theorem xo_load0 (T : Tys P) {t : TypeId} {x : Operand} {b i : Nat} {wr : Bool} {cs : List Value} {te : TypeId} {v : Value} (hg : gS ops σ g = some true) (ht : look t T.tk = some 0) (hx : ev σ x = some (.pointer (some ⟨b, i, none⟩))) (hm : (b, wr, cel cs te) ∈ η) (hv : nth i cs = some v) (hN : dstOK N d = true)
    (h : XO P ro n N ds w0 X Q ops (putS d v σ) η rest) : XO P ro n N ds w0 X Q ops σ η (⟨d, .load t x, ty, pos, aft, g⟩ :: rest) :=
  xo_val v rfl hg hN (fun a w ha hw => by
    have h1 := (T.htk _ (look_mem ht)).1 w
    have h2 := hw.cell hm i (by rw [← nth_eq]; exact hv)
    simp [execOp, ha.ev hx, Instr.loadAt, Instr.sureAddr, loadVar, h1, h2]) h
theorem xo_loadN (T : Tys P) {t : TypeId} {x : Operand} {b i k : Nat} {wr : Bool} {cs vs : List Value} {te : TypeId} (hg : gS ops σ g = some true) (ht : look t T.tk = some (k + 1)) (hx : ev σ x = some (.pointer (some ⟨b, i, none⟩))) (hm : (b, wr, cel cs te) ∈ η) (hv : seg i (k + 1) cs = some vs) (hN : dstOK N d = true)
    (h : XO P ro n N ds w0 X Q ops (putS d (.agg vs.toArray) σ) η rest) : XO P ro n N ds w0 X Q ops σ η (⟨d, .load t x, ty, pos, aft, g⟩ :: rest) :=
  xo_val _ rfl hg hN (fun a w ha hw => by
    obtain ⟨h1, h3_⟩ := T.htk _ (look_mem ht)
    have h3 : ∀ w, (sizeOf t).run P w = .ok (k + 1) w := h3_
    have h1 : ∀ w, (isAgg t).run P w = .ok true w := fun w => (h1 w).trans (by simp [Nat.blt])
    clear h3_
    have hs := seg_get _ _ _ _ hv
    have h2 := run_loadCells_list (P := P) (w := w) ⟨b, i, none⟩ vs (fun j v hj => by rw [Addr.add_lit]; exact hw.cell hm (i + j) (hs.2 j v hj))
    rw [hs.1] at h2
    simp [execOp, ha.ev hx, Instr.loadAt, Instr.sureAddr, loadVar, h1, h3, h2]) h
theorem xo_loadR0 (T : Tys P) {t : TypeId} {x : Operand} {p : Addr} {v : Value} (hg : gS ops σ g = some true) (ht : look t T.tk = some 0) (hx : ev σ x = some (.pointer (some p))) (hc : RO w0 X p [v]) (hN : dstOK N d = true)
    (h : XO P ro n N ds w0 X Q ops (putS d v σ) η rest) : XO P ro n N ds w0 X Q ops σ η (⟨d, .load t x, ty, pos, aft, g⟩ :: rest) :=
  xo_val v rfl hg hN (fun a w ha hw => by
    have h1 := (T.htk _ (look_mem ht)).1 w
    have h0 := hc 0 v rfl
    rw [Addr.add_zero'] at h0
    have h2 := hw.kx.cell h0.1 h0.2
    simp [execOp, ha.ev hx, Instr.loadAt, Instr.sureAddr, loadVar, h1, h2]) h
theorem xo_loadRN (T : Tys P) {t : TypeId} {x : Operand} {p : Addr} {k : Nat} {vs : List Value} (hg : gS ops σ g = some true) (ht : look t T.tk = some (k + 1)) (hx : ev σ x = some (.pointer (some p))) (hc : RO w0 X p vs) (hl : vs.length = k + 1) (hN : dstOK N d = true)
    (h : XO P ro n N ds w0 X Q ops (putS d (.agg vs.toArray) σ) η rest) : XO P ro n N ds w0 X Q ops σ η (⟨d, .load t x, ty, pos, aft, g⟩ :: rest) :=
  xo_val _ rfl hg hN (fun a w ha hw => by
    obtain ⟨h1, h3_⟩ := T.htk _ (look_mem ht)
    have h3 : ∀ w, (sizeOf t).run P w = .ok (k + 1) w := h3_
    have h1 : ∀ w, (isAgg t).run P w = .ok true w := fun w => (h1 w).trans (by simp [Nat.blt])
    clear h3_
    have h2 := run_loadCells_list (P := P) (w := w) p vs (fun j v hj => hw.kx.cell (hc j v hj).1 (hc j v hj).2)
    rw [hl] at h2
    simp [execOp, ha.ev hx, Instr.loadAt, Instr.sureAddr, loadVar, h1, h3, h2]) h
theorem xo_alloc (T : Tys P) {t : TypeId} {z : Value} {cs : List Value} (hg : gS ops σ g = some true) (hz : look t T.zs = some z) (hc : z.cells.toList = cs) (hN : dstOK N d = true)
    (h : ∀ b, XO P ro n N ds w0 X Q ops (putS d (.pointer (some ⟨b, 0, none⟩)) σ) ((b, true, cel cs t) :: η) rest) : XO P ro n N ds w0 X Q ops σ η (⟨d, .alloc t, ty, pos, aft, g⟩ :: rest) :=
  xo_base rfl hg fun a w ha hw => by
    have h1 := T.hzs _ (look_mem hz) w
    refine ⟨_, w.alloc (.cells z.cells t), .pointer (some ⟨w.heap.size, 0, none⟩), ?_, .inl rfl, h _ _ _ (ha.put hN _) (hw.alloc _ _ ?_)⟩
    · simp only [execOp, Instr.alloc, Sem.run_bind, h1, Result.andThen_ok]
      rfl
    · rw [← hc]; simp [cel]
theorem xo_box {t : TypeId} {x : Operand} {v : Value} {cs : List Value} (hg : gS ops σ g = some true) (hx : ev σ x = some v) (hc : v.cells.toList = cs) (hN : dstOK N d = true)
    (h : ∀ b, XO P ro n N ds w0 X Q ops (putS d (.pointer (some ⟨b, 0, none⟩)) σ) ((b, true, cel cs t) :: η) rest) : XO P ro n N ds w0 X Q ops σ η (⟨d, .box t x, ty, pos, aft, g⟩ :: rest) :=
  xo_base rfl hg fun a w ha hw => by
    refine ⟨_, w.alloc (.cells v.cells t), .pointer (some ⟨w.heap.size, 0, none⟩), ?_, .inl rfl, h _ _ _ (ha.put hN _) (hw.alloc _ _ ?_)⟩
    · simp only [execOp, Instr.box, Sem.run_bind, ha.ev hx, Result.andThen_ok]
      rfl
    · rw [← hc]; simp [cel]
theorem run_storeCells (b : Nat) (te : TypeId) : ∀ (vs cs : List Value) (i j : Nat) (cs' : List Value) (w : World), (∀ v ∈ vs, v.oneCell' = true) → setSeg (i + j) vs cs = some cs' → w.heap[b]? = some (.cells cs.toArray te (0, 0)) →
    ∃ w', (storeCells ⟨b, i, none⟩ vs j).run P w = .ok () w' ∧ OneB b w w' ∧ w'.heap[b]? = some (.cells cs'.toArray te (0, 0)) := by
  have put1 : ∀ (k : Nat) (v : Value) (vs cs cs' : List Value), setSeg k (v :: vs) cs = some cs' → k < cs.length ∧ setSeg (k + 1) vs (cs.set k v) = some cs' := by
    intro k
    induction k with
    | zero =>
      intro v vs cs cs' h
      cases cs with
      | nil => simp [setSeg] at h
      | cons x r =>
        simp only [setSeg] at h
        split at h
        · rename_i r' hr
          cases h
          refine ⟨by simp, ?_⟩
          simp only [List.set_cons_zero, setSeg, Nat.zero_add, hr]
        · cases h
    | succ k ih =>
      intro v vs cs cs' h
      cases cs with
      | nil => simp [setSeg] at h
      | cons x r =>
        simp only [setSeg] at h
        split at h
        · rename_i r' hr
          cases h
          have := ih v vs r r' hr
          refine ⟨by simp; exact this.1, ?_⟩
          simp only [List.set_cons_succ, setSeg, this.2]
        · cases h
  have done : ∀ (k : Nat) (cs cs' : List Value), setSeg k [] cs = some cs' → cs' = cs := by
    intro k
    induction k with
    | zero => intro cs cs' h; simp [setSeg] at h; exact h.symm
    | succ k ih =>
      intro cs cs' h
      cases cs with
      | nil => simp [setSeg] at h
      | cons x r =>
        simp only [setSeg] at h
        split at h
        · rename_i r' hr
          cases h
          rw [ih r r' hr]
        · cases h
  intro vs
  induction vs with
  | nil =>
    intro cs i j cs' w _ hs hb
    have := done _ _ _ hs
    subst this
    exact ⟨w, rfl, OneB.refl b w, hb⟩
  | cons v vs ih =>
    intro cs i j cs' w h1 hs hb
    obtain ⟨hlt, hs'⟩ := put1 _ _ _ _ _ hs
    have hcell : w.cell? ⟨b, i + j, none⟩ = some (cs[i + j]'hlt) := by
      rw [cell_of_row w b (i + j) _ te _ hb]
      simp [List.getElem?_eq_getElem hlt]
    have hfz : w.frozen? ⟨b, i + j, none⟩ = false := frozen_of_row w b (i + j) _ te hb
    have hst : (store ⟨b, i + j, none⟩ v .plain).run P w = .ok () (w.setCell ⟨b, i + j, none⟩ v) := by
      rw [run_store P w _ v _ (h1 v (List.mem_cons_self ..)), hcell]
      simp [hfz]
    have hb' : (w.setCell ⟨b, i + j, none⟩ v).heap[b]? = some (.cells (cs.set (i + j) v).toArray te (0, 0)) := by
      rw [heap_setCell_same w b (i + j) _ te v hb]
      simp
    obtain ⟨w', hr, ho, hb2⟩ := ih (cs.set (i + j) v) i (j + 1) cs' _ (fun u hu => h1 u (List.mem_cons_of_mem _ hu)) (by rw [show i + (j + 1) = i + j + 1 from rfl]; exact hs') hb'
    refine ⟨w', ?_, (OneB.setCell w b (i + j) v).trans ho, hb2⟩
    simp only [storeCells, Addr.add_lit, Sem.run_bind, hst, Result.andThen_ok, hr]
theorem xo_store (T : Tys P) {t : TypeId} {p x : Operand} {b i k0 : Nat} {cs cs' vs : List Value} {te : TypeId} {v : Value} {η' : Hp} (hg : gS ops σ g = some true) (ht : look t T.tk = some k0) (hp : ev σ p = some (.pointer (some ⟨b, i, none⟩))) (hx : ev σ x = some v)
    (hm : (b, true, cel cs te) ∈ η) (hvs : v.cells.toList = vs) (hl : Nat.beq vs.length (szN k0) = true) (h1 : vs.all (·.oneCell') = true) (hs : setSeg i vs cs = some cs') (hU : Upd b (cel cs' te) η η') (hN : dstOK N d = true)
    (h : XO P ro n N ds w0 X Q ops (putS d undef σ) η' rest) : XO P ro n N ds w0 X Q ops σ η (⟨d, .store t p x, ty, pos, aft, g⟩ :: rest) :=
  xo_base rfl hg fun a w ha hw => by
    have h2 := (T.htk _ (look_mem ht)).2 w
    obtain ⟨w', hr, ho, hb⟩ := run_storeCells (P := P) b te vs cs i 0 cs' w (by simpa using h1) hs (hw.obj hm)
    refine ⟨_, w', undef, ?_, .inr ⟨rfl, rfl⟩, h _ _ (ha.put hN _) (hw.upd hU ho hb rfl)⟩
    have hlen : v.cells.size = szN k0 := by have := Nat.eq_of_beq_eq_true hl; rw [← this, ← hvs]; simp
    unfold szN at hlen
    simp only [execOp, ha.ev hp, ha.ev hx, Instr.storeAt, Instr.sureAddr, storeVar, Sem.run_bind, Sem.run_pure, Result.andThen_ok, h2, hlen, hvs, hr, ne_eq, not_true_eq_false, ↓reduceIte]
end
end Go.Proofs.Ytcmepdamemnbkaa
