/- A region that draws its order of evaluation, in a round of a range over a function (and anywhere inside the wide fence): its walk by the plain laws. No program in sight. / Maps keyed by int that a call has made: a list of entries as it reads, in the order in which they came; what a look-up, a store, a delete, a range do. No program in sight. / SX: a walk by rules: what the slots of a frame hold, what the blocks of the call's own hold; each operation is one rule. No program in sight. / SX: the operations, a rule each. No program in sight. / SX: calls, builtins, maps, rows, returns. No program in sight. / SX: rows of the call's own: append, make, elements at a computed place. No program in sight. -/
import Derived.WalkKit
import Derived.WalkSpells
import Derived.WalkLawsBesides
import Derived.RangeFuncCalls
import Derived.OrdersIn
import Derived.Deep.RegionHeld
import Derived.Scope
import Derived.Maps.RangeRun
import Derived.RangeFuncRecord
import Derived.MapFrom
import Derived.Carry
import Derived.Below
import Derived.RangeFuncWrites
import Derived.Laws.EntriesVeiled
import Derived.Laws.Rows
import Derived.Laws.Cells
import Derived.IntWalk
import Derived.Sort.LoopGhostIn
import Derived.Shelf.Abstract
import Derived.Maps.AppendAt
import Derived.Deep.OwnRows
namespace Go.Proofs.Ytcmepdamemnbkaa
set_option linter.unusedVariables false
set_option linter.unusedSimpArgs false

/-- the post, at the way on alone -/
def OnlyN (Q : Exit → Act → World → Prop) : Exit → Act → World → Prop
  | .normal, a, w => Q .normal a w
  | _, _, _ => False
theorem onlyN_lets {Q : Exit → Act → World → Prop} : ¬ LetsOut (OnlyN Q) := fun ⟨_, _, h⟩ => h
def wideR (ro : Option Nat) : Fence := { Fence.wide with round := ro }
theorem callsIn_wideR {ro : Option Nat} {n : Nat} {P : Program} {f : FuncId} {args : Array Value} {w : World} {R : Ending → World → Prop} (h : Calls P f args w R) : CallsIn (wideR ro) n P f args w R := callsIn_wide.2 h
theorem rowsIn_wideR {ro : Option Nat} {n : Nat} {P : Program} {row : String} {args : Array Value} {w : World} {R : Value → World → Prop} (h : Rows P row args w R) : RowsIn (wideR ro) n P row args w R :=
  fun c cs _ => let ⟨v, w', r, s⟩ := h c cs; ⟨v, w', r, stepsIn_wide.2 s⟩

theorem wpIn_of_wp {ro : Option Nat} {n : Nat} {P : Program} {o : Oper} {a : Act} {w : World} {K : Act → World → Prop} {Q : Exit → Act → World → Prop} (hd : ∀ c, o.op ≠ .defer c)
    (h : Oper.wp P o a w K (OnlyN Q)) : Oper.wpIn (wideR ro) n P o a w K Q := by
  refine ⟨fun _ _ => trivial, ?_⟩
  rw [show (wideR ro).round = ro from rfl, Oper.semAt_eq ro _ _ hd]
  unfold Oper.wp at h
  generalize (execOp a.eval o).run P w = r at h
  cases r with
  | ok x w' =>
    cases x with
    | value v => exact h
    | skip => exact h
    | defer d => exact h
    | enter f args =>
      refine ⟨fun hs => by simp [wideR, Fence.wide] at hs, callsIn_wideR (Calls.mono h ?_)⟩
      intro e w'' he
      cases e with
      | returned v => exact he
      | panicked c => exact he.elim
      | outgrown => exact (onlyN_lets he).elim
    | row row args => exact ⟨fun hs => by simp [wideR, Fence.wide] at hs, rowsIn_wideR h⟩
    | _ => exact h.elim
  | halt x w' =>
    cases x <;> first | exact h.elim | exact h

theorem wpOpIn_of {ro : Option Nat} {n : Nat} {P : Program} {ops : Array Oper} {Q : Exit → Act → World → Prop} {K K' : Act → World → Prop} (hd : ∀ (i : Nat) (o : Oper) c, ops[i]? = some o → o.op ≠ .defer c) (hK : ∀ a w, K a w → K' a w) (i : Nat) (a : Act) (w : World)
    (h : wpOp P ops (OnlyN Q) i K a w) : wpOpIn (wideR ro) n P ops Q i K' a w := by
  unfold wpOp at h
  unfold wpOpIn
  cases ho : ops[i]? with
  | none => rw [ho] at h; exact hK _ _ h
  | some o =>
    rw [ho] at h
    simp only at h ⊢
    split at h
    · rename_i hw
      rw [if_pos hw]
      rcases h with h | h
      · exact Oper.wpIn_mono hK (wpIn_of_wp (fun c => hd i o c ho) h)
      · exact (onlyN_lets h.2).elim
    · rename_i hw
      rw [if_neg hw]
      exact ⟨fun _ _ => trivial, hK _ _ h⟩

theorem wpAnyIn_of {ro : Option Nat} {n : Nat} {P : Program} {ops : Array Oper} {md : Region.Mode} {Q : Exit → Act → World → Prop} (hd : ∀ (i : Nat) (o : Oper) c, ops[i]? = some o → o.op ≠ .defer c) :
    ∀ (fuel : Nat) (listed : Array Bool) (a : Act) (w : World), wpAny P md ops (OnlyN Q) fuel listed a w → wpAnyIn (wideR ro) n P md ops Q fuel listed a w
  | 0, _, _, _, h => h
  | fuel + 1, _, _, _, h => ⟨h.1, fun i hi => wpOpIn_of hd (fun _ _ => wpAnyIn_of hd fuel _ _ _) i _ _ (h.2 i hi)⟩

def isDefer : Op → Bool
  | .defer _ => true
  | _ => false
/-- **the beginning** of such a region, in a round -/
theorem wpIn_region_held {l n : Nat} {P : Program} {id : Nat} {ops : Array Oper} {Q : Exit → Act → World → Prop} (S : World → Prop) {a : Act} {w : World} (hm : P.follows .mixedOrders = true) (hd : ops.all (fun o => !isDefer o.op) = true) (hS : S w.drew)
    (h : S w.drew → wpAnyH P .any ops (OnlyN Q) S ops.size (Array.replicate ops.size false) a w.drew) : (Code.region id ops true).wpIn (Fence.wide.inRound l) n P Q a w := by
  refine wpIn_region_any hm (wpAnyIn_of (ro := some l) ?_ _ _ _ _ (wpAny_of_held _ _ _ _ (h hS)))
  intro i o c ho e
  have hm := Array.all_eq_true'.1 hd o (Array.mem_of_getElem? ho)
  rw [e] at hm
  simp [isDefer] at hm
/-- the same, in the wide fence -/
theorem wpIn_region_held0 {n : Nat} {P : Program} {id : Nat} {ops : Array Oper} {Q : Exit → Act → World → Prop} (S : World → Prop) {a : Act} {w : World} (hm : P.follows .mixedOrders = true) (hd : ops.all (fun o => !isDefer o.op) = true) (hS : S w.drew)
    (h : S w.drew → wpAnyH P .any ops (OnlyN Q) S ops.size (Array.replicate ops.size false) a w.drew) : (Code.region id ops true).wpIn Fence.wide n P Q a w := by
  refine wpIn_region_any hm (wpAnyIn_of (ro := none) ?_ _ _ _ _ (wpAny_of_held _ _ _ _ (h hS)))
  intro i o c ho e
  have hm := Array.all_eq_true'.1 hd o (Array.mem_of_getElem? ho)
  rw [e] at hm
  simp [isDefer] at hm
section
variable {P : Program} {b : Frame} {a : Act} {k : List Item} {cs : List Frame} {w : World}
theorem stepR_scope {c : Code} : step P (lone (b.atR a (.code (.scope c) :: k)) cs w) = .next (lone (b.atR a (.code c :: .inScope c :: k)) cs w) :=
  step_lone_go (by simp [stepG, stepG.exec, Frame.atR])
theorem stepR_inScope {c : Code} : step P (lone (b.atR a (.inScope c :: k)) cs w) = .next (lone (b.atR a k) cs w) :=
  step_lone_go (by simp [stepG, stepG.exec, Frame.atR])
/-- a scope with labels that no goto comes to -/
theorem wpIn_scope_straight {F : Fence} {n : Nat} {c : Code} {Q : Exit → Act → World → Prop} (h : c.wpIn F n P (Exit.noGoto Q) a w) : (Code.scope c).wpIn F n P Q a w := by
  intro b k cs hro hb hr
  have h0 : (lone (b.atR a (.code (.scope c) :: k)) cs w).fenced P F := fenced_calm hb hr rfl
  obtain ⟨e, a₁, w₁, hq, harr⟩ := h b (.inScope c :: k) cs hro hb hr
  cases e with
  | normal => exact ⟨.normal, a₁, w₁, hq, .head h0 stepR_scope (StepsIn.trans harr (.one (fenced_calm hb hr rfl) stepR_inScope))⟩
  | exit id =>
    have hx : exitTo id (.inScope c :: k) = exitTo id k := by simp [exitTo]
    exact ⟨.exit id, a₁, w₁, hq, fun k' hk => .head h0 stepR_scope (harr.1 k' (by rw [hx]; exact hk)), fun hr' hk => let ⟨k₁, h1, h2⟩ := harr.2 hr' (by rw [hx]; exact hk); ⟨k₁, h1, .head h0 stepR_scope h2⟩⟩
  | goto l => exact hq.elim
  | ret => exact ⟨_, a₁, w₁, hq, .of_steps (.one h0 stepR_scope) harr⟩
  | panic ch => exact ⟨_, a₁, w₁, hq, .of_steps (.one h0 stepR_scope) harr⟩
  | outgrown => exact ⟨_, a₁, w₁, hq, .of_steps (.one h0 stepR_scope) harr⟩
end
/-! ### one operation of such a region, taken first -/
section
variable {P : Program} {ops : Array Oper} {Q : Exit → Act → World → Prop} {S : World → Prop} {fuel : Nat} {listed : Array Bool} {a : Act} {w : World}
theorem take_v (i : Nat) (d : Option Tmp) (v : Value) {oi : Oper} (hi : ops[i]? = some oi) (hd : oi.dst = d) (hs : Region.noSelect ops = true) (hf : Region.free .any ops listed i = true) (hr : (Region.ready .any ops listed).contains i = true)
    (hw : Region.wanted oi (yielded ops a.tmps) = true) (hS : S w) (hy : ∀ w, S w → (execOp a.eval oi).run P w = .ok (.value v) w)
    (h : wpAnyH P .any ops (OnlyN Q) S fuel (listed.setIfInBounds i true) (a.put d v) w) : wpAnyH P .any ops (OnlyN Q) S (fuel + 1) listed a w := by
  subst hd
  exact wpAnyH_take hi hs hf hr (fun _ _ _ h => h) (Or.inl ⟨hw, hy⟩) hS h
theorem take_no (i : Nat) (d : Option Tmp) {oi : Oper} (hi : ops[i]? = some oi) (hd : oi.dst = d) (hs : Region.noSelect ops = true) (hf : Region.free .any ops listed i = true) (hr : (Region.ready .any ops listed).contains i = true)
    (hw : Region.wanted oi (yielded ops a.tmps) = false) (hS : S w)
    (h : wpAnyH P .any ops (OnlyN Q) S fuel (listed.setIfInBounds i true) (a.put d undef) w) : wpAnyH P .any ops (OnlyN Q) S (fuel + 1) listed a w := by
  subst hd
  exact wpAnyH_take hi hs hf hr (fun _ _ _ h => h) (Or.inr ⟨hw, rfl⟩) hS h
end
theorem wanted_is {o oj : Oper} {ops : Array Oper} {tmps : Array Value} {j d : Nat} {want b : Bool} (hg : o.guard = some (j, want)) (hj : ops[j]? = some oj) (hd : oj.dst = some d) (ht : tmps[d]? = some (.bool b)) : Region.wanted o (yielded ops tmps) = (b == want) := by
  simp only [Region.wanted, hg, yielded, hj, hd, ht, Option.bind_some]
  cases b <;> cases want <;> rfl
end Go.Proofs.Ytcmepdamemnbkaa
namespace Go.Proofs.Ytcmepdamemnbkaa
open Go.MapKept Go.RowKit
set_option linter.unusedVariables false
set_option linter.unusedSimpArgs false

def kvE (e : MapEntry) : Value × Value := (e.key, e.val)
def kvI (p : Int × Value) : Value × Value := (.int .i64 p.1, p.2)
/-- these entries are that list -/
structure Ents (es : Array MapEntry) (clock : Nat) (l : List (Int × Value)) : Prop where
  is : es.toList.map kvE = l.map kvI
  keys : (l.map (·.1)).Nodup
  born : ∀ e ∈ es.toList, e.born < clock
  once : (es.toList.map (·.born)).Nodup
def IMap (w : World) (b : Nat) (l : List (Int × Value)) : Prop := ∃ es clock, w.heap[b]? = some (.map es clock) ∧ Ents es clock l
def imGet {β : Type} (x : Int) : List (Int × β) → Option β
  | [] => none
  | p :: r => if p.1 = x then some p.2 else imGet x r
def imSet {β : Type} (x : Int) (v : β) : List (Int × β) → List (Int × β)
  | [] => [(x, v)]
  | p :: r => if p.1 = x then (x, v) :: r else p :: imSet x v r
def imDel {β : Type} (x : Int) : List (Int × β) → List (Int × β)
  | [] => []
  | p :: r => if p.1 = x then r else p :: imDel x r

theorem imGet_map {β γ : Type} (f : β → γ) (x : Int) : ∀ l : List (Int × β), imGet x (l.map fun p => (p.1, f p.2)) = (imGet x l).map f
  | [] => rfl
  | p :: r => by
    simp only [List.map_cons, imGet]
    split
    · rfl
    · exact imGet_map f x r
theorem imSet_map {β γ : Type} (f : β → γ) (x : Int) (v : β) : ∀ l : List (Int × β), imSet x (f v) (l.map fun p => (p.1, f p.2)) = (imSet x v l).map fun p => (p.1, f p.2)
  | [] => rfl
  | p :: r => by
    simp only [List.map_cons, imSet]
    split
    · rfl
    · rw [imSet_map f x v r]; rfl

theorem IMap.at_ {w w' : World} {b : Nat} {l : List (Int × Value)} (h : IMap w b l) (e : w'.heap[b]? = w.heap[b]?) : IMap w' b l := by
  obtain ⟨es, c, h1, h2⟩ := h
  exact ⟨es, c, e.trans h1, h2⟩
theorem IMap.lt {w : World} {b : Nat} {l : List (Int × Value)} (h : IMap w b l) : b < w.heap.size := by
  obtain ⟨es, c, h1, h2⟩ := h
  exact (Array.getElem?_eq_some_iff.1 h1).1
theorem IMap.alloc {w : World} {b : Nat} {l : List (Int × Value)} (h : IMap w b l) (o : Obj) : IMap (w.alloc o) b l := h.at_ (Below.heap_alloc w o b h.lt)
theorem IMap.setCell {w : World} {b : Nat} {l : List (Int × Value)} (h : IMap w b l) {p : Addr} (hp : b ≠ p.block) (v : Value) : IMap (w.setCell p v) b l := h.at_ (Below.heap_setCell w p v b hp)
theorem IMap.below {w w' : World} {b : Nat} {l : List (Int × Value)} (h : IMap w b l) (hb : Below w.heap.size w w') : IMap w' b l := h.at_ (hb.block b h.lt)
theorem IMap.drew {w : World} {b : Nat} {l : List (Int × Value)} (h : IMap w b l) : IMap w.drew b l := h
theorem IMap.new (w : World) : IMap (w.alloc (.map #[] 0)) w.heap.size [] := ⟨#[], 0, heap_alloc_new w _, ⟨rfl, by simp, by simp, by simp⟩⟩

theorem findNow_l (x : Int) : ∀ (l : List (Int × Value)) (es : List MapEntry) (i : Nat), es.map kvE = l.map kvI → (imGet x l = none ∧ Instr.findNow (.int .i64) (.int .i64 x) es i = some none) ∨ (∃ j v e, imGet x l = some v ∧ Instr.findNow (.int .i64) (.int .i64 x) es i = some (some (i + j, v)) ∧ es[j]? = some e ∧ e.key = .int .i64 x)
  | [], [], i, _ => .inl ⟨rfl, rfl⟩
  | [], _ :: _, _, h => by simp at h
  | _ :: _, [], _, h => by simp at h
  | p :: r, e :: es, i, h => by
    simp only [List.map_cons, List.cons.injEq] at h
    obtain ⟨h1, h2⟩ := h
    have hk : e.key = .int .i64 p.1 := congrArg Prod.fst h1
    have hv : e.val = p.2 := congrArg Prod.snd h1
    by_cases hx : p.1 = x
    · right
      refine ⟨0, p.2, e, by simp [imGet, hx], by simp [Instr.findNow, Instr.sameNow, hk, hx, hv], rfl, by rw [hk, hx]⟩
    · have hf : Instr.findNow (.int .i64) (.int .i64 x) (e :: es) i = Instr.findNow (.int .i64) (.int .i64 x) es (i + 1) := by
        have hx' : (x == p.1) = false := by simpa using fun h => hx h.symm
        simp [Instr.findNow, Instr.sameNow, hk, hx']
      have hg : imGet x (p :: r) = imGet x r := by simp [imGet, hx]
      rw [hf, hg]
      rcases findNow_l x r es (i + 1) h2 with h | ⟨j, v, e', a1, a2, a3, a4⟩
      · exact .inl h
      · exact .inr ⟨j + 1, v, e', a1, by rw [a2, show i + (j + 1) = i + 1 + j from by omega], by simpa using a3, a4⟩

section
variable {P : Program} {w : World} {t k e : TypeId} {b : Nat} {l : List (Int × Value)}
theorem IMap.look (h : IMap w b l) (ht : P.underlying t = some (.map k e)) (hk : P.underlying k = some (.int .i64)) {z : Value} (hz : (zeroValue e).run P w = .ok z w) (x : Int) :
    (Instr.lookup t (.map (some b)) (.int .i64 x) true).run P w = .ok (.tuple #[(imGet x l).getD z, .bool (imGet x l).isSome]) w := by
  obtain ⟨es, c, hb, hE⟩ := h
  have hkey : IsKey (.int .i64) (.int .i64 x) := rfl
  rcases findNow_l x l es.toList 0 hE.is with ⟨h1, h2⟩ | ⟨j, v, e', h1, h2, -, -⟩
  · simp [Instr.lookup, run_underlying ht, MapKept.run_getObj_map hb, run_checkKey hk hkey, run_findKey hk h2, hz, h1, Result.andThen]
  · simp [Instr.lookup, run_underlying ht, MapKept.run_getObj_map hb, run_checkKey hk hkey, run_findKey hk h2, h1, Result.andThen]
theorem IMap.look1 (h : IMap w b l) (ht : P.underlying t = some (.map k e)) (hk : P.underlying k = some (.int .i64)) {z : Value} (hz : (zeroValue e).run P w = .ok z w) (x : Int) :
    (Instr.lookup t (.map (some b)) (.int .i64 x) false).run P w = .ok ((imGet x l).getD z) w := by
  obtain ⟨es, c, hb, hE⟩ := h
  have hkey : IsKey (.int .i64) (.int .i64 x) := rfl
  rcases findNow_l x l es.toList 0 hE.is with ⟨h1, h2⟩ | ⟨j, v, e', h1, h2, -, -⟩
  · simp [Instr.lookup, run_underlying ht, MapKept.run_getObj_map hb, run_checkKey hk hkey, run_findKey hk h2, hz, h1, Result.andThen]
  · simp [Instr.lookup, run_underlying ht, MapKept.run_getObj_map hb, run_checkKey hk hkey, run_findKey hk h2, h1, Result.andThen]

theorem imSet_keys (x : Int) (v : Value) : ∀ l : List (Int × Value), (imGet x l = none ∧ imSet x v l = l ++ [(x, v)] ∧ x ∉ l.map (·.1)) ∨ ((imSet x v l).map (·.1) = l.map (·.1) ∧ (imGet x l).isSome)
  | [] => .inl ⟨rfl, rfl, by simp⟩
  | p :: r => by
    by_cases hx : p.1 = x
    · right
      simp [imSet, imGet, hx]
    · rcases imSet_keys x v r with ⟨h1, h2, h3⟩ | ⟨h1, h2⟩
      · left
        refine ⟨by simp [imGet, hx, h1], by simp [imSet, hx, h2], by simpa using ⟨fun e => hx e.symm, by simpa using h3⟩⟩
      · right
        simp [imSet, imGet, hx, h1, h2]
theorem modify_kv (x : Int) (v : Value) : ∀ (l : List (Int × Value)) (es : List MapEntry) (i : Nat) (j : Nat) (u : Value), es.map kvE = l.map kvI → Instr.findNow (.int .i64) (.int .i64 x) es i = some (some (i + j, u)) →
    (es.modify j fun e => { e with key := .int .i64 x, val := v }).map kvE = (imSet x v l).map kvI ∧ (es.modify j fun e => { e with key := .int .i64 x, val := v }).map (·.born) = es.map (·.born)
  | [], [], i, j, u, _, h => by simp [Instr.findNow] at h
  | [], _ :: _, _, _, _, h, _ => by simp at h
  | _ :: _, [], _, _, _, h, _ => by simp at h
  | p :: r, e :: es, i, j, u, h, hf => by
    simp only [List.map_cons, List.cons.injEq] at h
    obtain ⟨h1, h2⟩ := h
    have hk : e.key = .int .i64 p.1 := congrArg Prod.fst h1
    by_cases hx : p.1 = x
    · have : j = 0 := by
        simp [Instr.findNow, Instr.sameNow, hk, hx] at hf
        omega
      subst this
      simp [imSet, hx, h2, kvE, kvI]
    · have hx' : (x == p.1) = false := by simpa using fun h => hx h.symm
      simp only [Instr.findNow, Instr.sameNow, hk, ↓reduceIte, hx'] at hf
      cases j with
      | zero =>
        exfalso
        rcases findNow_l x r es (i + 1) h2 with ⟨_, h3⟩ | ⟨j', v', e', _, h3, _, _⟩
        · rw [h3] at hf; simp at hf
        · rw [h3] at hf; simp at hf; omega
      | succ j =>
        have ih := modify_kv x v r es (i + 1) j u h2 (by rw [hf]; congr 2; simp; omega)
        constructor
        · simp [imSet, hx, h1, ih.1]
        · simp [ih.2]
theorem IMap.store (h : IMap w b l) (ht : P.underlying t = some (.map k e)) (hk : P.underlying k = some (.int .i64)) (x : Int) (v : Value) :
    ∃ o : Obj, (Instr.mapUpdate t (.map (some b)) (.int .i64 x) v).run P w = .ok () (w.putObj b o) ∧ IMap (w.putObj b o) b (imSet x v l) := by
  have hlt := h.lt
  obtain ⟨es, c, hb, hE⟩ := h
  have hkey : IsKey (.int .i64) (.int .i64 x) := rfl
  rcases findNow_l x l es.toList 0 hE.is with ⟨h1, h2⟩ | ⟨j, u, e', h1, h2, h3, h4⟩
  · refine ⟨.map (es.push { key := .int .i64 x, val := v, born := c }) (c + 1), ?_, _, _, World.putObj_heap_same hlt, ?_⟩
    · simp [Instr.mapUpdate, run_underlying ht, MapKept.run_getObj_map hb, run_checkKey hk hkey, run_findKey hk h2, MapKept.run_setObj_map _ hb, Result.andThen, World.putObj]
    · rcases imSet_keys x v l with ⟨_, a2, a3⟩ | ⟨_, a2⟩
      · rw [a2]
        refine ⟨by simp [hE.is, kvE, kvI], ?_, ?_, ?_⟩
        · rw [List.map_append]
          exact List.nodup_append.2 ⟨hE.keys, by simp, fun a ha b' hb' e => by simp at hb'; subst hb'; subst e; exact a3 ha⟩
        · intro e he
          simp at he
          rcases he with he | rfl
          · have := hE.born e (by simpa using he); omega
          · simp
        · simp only [Array.toList_push, List.map_append, List.map_cons, List.map_nil]
          refine List.nodup_append.2 ⟨hE.once, by simp, fun a ha b' hb' e => ?_⟩
          simp at hb'
          subst hb'
          subst e
          obtain ⟨m, hm, he⟩ := List.mem_map.1 ha
          have := hE.born m hm
          omega
      · rw [h1] at a2; simp at a2
  · have hj : es[j]? = some e' := by rw [← Array.getElem?_toList]; exact h3
    have hmod := modify_kv x v l es.toList 0 j u hE.is h2
    have hkk : IsKey (.int .i64) (.int .i64 x) := rfl
    refine ⟨.map (es.modify j fun e => { e with key := .int .i64 x, val := v }) c, ?_, _, _, World.putObj_heap_same hlt, ?_⟩
    · simp [Instr.mapUpdate, run_underlying ht, MapKept.run_getObj_map hb, run_checkKey hk hkey, run_findKey hk h2, hj, h4, run_keyThatStays hkk, MapKept.run_setObj_map _ hb, Result.andThen, World.putObj]
    · have hkeys : (imSet x v l).map (·.1) = l.map (·.1) := by
        rcases imSet_keys x v l with ⟨a1, _, _⟩ | ⟨a1, _⟩
        · rw [h1] at a1; simp at a1
        · exact a1
      refine ⟨by rw [Array.toList_modify]; exact hmod.1, by rw [hkeys]; exact hE.keys, ?_, by rw [Array.toList_modify, hmod.2]; exact hE.once⟩
      intro e he
      rw [Array.toList_modify] at he
      have hm : e.born ∈ (es.toList.modify j fun e => { e with key := .int .i64 x, val := v }).map (·.born) := List.mem_map_of_mem he
      rw [hmod.2] at hm
      obtain ⟨m, hm1, hm2⟩ := List.mem_map.1 hm
      rw [← hm2]
      exact hE.born m hm1
end

/-- an iterator over such a map into which nothing has been laid since: what is left of it -/
def IRange (w : World) (r b : Nat) (l rem : List (Int × Value)) : Prop :=
  ∃ es clock since c0 seen, w.heap[b]? = some (.map es clock) ∧ Ents es clock l ∧ w.heap[r]? = some (.mapIter (some b) since seen c0) ∧ (∀ e ∈ es.toList, e.born < since) ∧ since ≤ c0 ∧ since ≤ clock ∧ (leftOf es seen).toList.map kvE = rem.map kvI
theorem IRange.at_ {w w' : World} {r b : Nat} {l rem : List (Int × Value)} (h : IRange w r b l rem) (e1 : w'.heap[b]? = w.heap[b]?) (e2 : w'.heap[r]? = w.heap[r]?) : IRange w' r b l rem := by
  obtain ⟨es, c, s, c0, seen, h1, h2, h3, h4⟩ := h
  exact ⟨es, c, s, c0, seen, e1.trans h1, h2, e2.trans h3, h4⟩
theorem IRange.lt {w : World} {r b : Nat} {l rem : List (Int × Value)} (h : IRange w r b l rem) : r < w.heap.size ∧ b < w.heap.size ∧ r ≠ b := by
  obtain ⟨es, c, s, c0, seen, h1, h2, h3, h4⟩ := h
  exact ⟨(Array.getElem?_eq_some_iff.1 h3).1, (Array.getElem?_eq_some_iff.1 h1).1, fun e => by rw [e, h1] at h3; cases h3⟩
theorem IRange.imap {w : World} {r b : Nat} {l rem : List (Int × Value)} (h : IRange w r b l rem) : IMap w b l := by
  obtain ⟨es, c, s, c0, seen, h1, h2, h3, h4⟩ := h
  exact ⟨es, c, h1, h2⟩
theorem IMap.range {P : Program} {w : World} {t k e : TypeId} {b : Nat} {l : List (Int × Value)} (h : IMap w b l) (ht : P.underlying t = some (.map k e)) :
    ∃ o : Obj, (Instr.range t (.map (some b))).run P w = .ok (.pointer (some ⟨w.heap.size, 0, none⟩)) (w.alloc o) ∧ IRange (w.alloc o) w.heap.size b l l := by
  have hlt := h.lt
  obtain ⟨es, c, hb, hE⟩ := h
  refine ⟨_, run_range_map w t k e b es c ht hb, es, c, c, c, #[], (Below.heap_alloc w _ b hlt).trans hb, hE, heap_alloc_new w _, hE.born, Nat.le_refl _, Nat.le_refl _, ?_⟩
  have : leftOf es #[] = es := by unfold leftOf; exact Array.filter_eq_self.2 (fun x hx => by simp)
  rw [this]
  exact hE.is
theorem filter_push (seen : Array Nat) (e : MapEntry) : ∀ L : List MapEntry, e ∈ L → (L.map (·.born)).Nodup → ∃ A B, L = A ++ e :: B ∧ L.filter (fun x => !(seen.push e.born).contains x.born) = (A ++ B).filter (fun x => !seen.contains x.born)
  | [], h, _ => by simp at h
  | x :: L, h, hn => by
    simp only [List.map_cons, List.nodup_cons] at hn
    have hkeep : ∀ M : List MapEntry, (∀ y ∈ M, y.born ≠ e.born) → M.filter (fun x => !(seen.push e.born).contains x.born) = M.filter (fun x => !seen.contains x.born) := fun M hM => by
      apply List.filter_congr
      intro y hy
      simp [hM y hy]
    rcases List.mem_cons.1 h with rfl | h'
    · refine ⟨[], L, rfl, ?_⟩
      rw [List.filter_cons_of_neg (by simp)]
      exact hkeep L (fun y hy q => hn.1 (List.mem_map.2 ⟨y, hy, q⟩))
    · obtain ⟨A, B, rfl, hf⟩ := filter_push seen e L h' hn.2
      refine ⟨x :: A, B, rfl, ?_⟩
      have hxe : x.born ≠ e.born := fun q => hn.1 (q ▸ List.mem_map_of_mem (f := (·.born)) h')
      have hx := hkeep [x] (by simpa using hxe)
      rw [show x :: (A ++ e :: B) = [x] ++ (A ++ e :: B) from rfl, List.filter_append, hx, hf, ← List.filter_append]
      rfl
theorem IRange.next {P : Program} {w : World} {r b : Nat} {l rem : List (Int × Value)} (h : IRange w r b l rem) (ty : TypeId) :
    (rem = [] ∧ (Instr.next (.pointer (some ⟨r, 0, none⟩)) false ty).run P w = .ok (.tuple #[.bool false]) w) ∨
    ∃ A p B o w1, rem = A ++ p :: B ∧ (w1 = w ∨ w1 = w.drew) ∧ (Instr.next (.pointer (some ⟨r, 0, none⟩)) false ty).run P w = .ok (.tuple #[.bool true, .int .i64 p.1, p.2]) (w1.putObj r o) ∧ IRange (w1.putObj r o) r b l (A ++ B)
      ∧ (Instr.entry (.pointer (some ⟨r, 0, none⟩))).run P (w1.putObj r o) = .ok (.tuple #[.int .i64 p.1, p.2]) (w1.putObj r o) := by
  obtain ⟨hr, hbl, hrb⟩ := h.lt
  obtain ⟨es, c, since, c0, seen, hb, hE, hit, hold, hsc, hsk, hrem⟩ := h
  rcases run_next_at (P := P) w ty r b since c0 seen es c hit hb hold hsc with ⟨h0, hrun⟩ | ⟨e, he, w1, hw1, hrun⟩
  · left
    refine ⟨?_, hrun⟩
    have : leftOf es seen = #[] := Array.eq_empty_of_size_eq_zero h0
    rw [this] at hrem
    simpa using hrem.symm
  · right
    have hfl : (leftOf es seen).toList = es.toList.filter (fun e => !seen.contains e.born) := by unfold leftOf; rw [Array.toList_filter]
    have hmem : e ∈ es.toList := by rw [hfl] at he; exact (List.mem_filter.1 he).1
    obtain ⟨A0, B0, hAB, hf⟩ := filter_push seen e es.toList hmem hE.once
    have hseen : (!seen.contains e.born) = true := by rw [hfl] at he; exact (List.mem_filter.1 he).2
    have hsplit : (leftOf es seen).toList = A0.filter (fun e => !seen.contains e.born) ++ e :: B0.filter (fun e => !seen.contains e.born) := by
      rw [hfl, hAB, List.filter_append, List.filter_cons_of_pos (by simpa using hseen)]
    rw [hsplit, List.map_append, List.map_cons] at hrem
    obtain ⟨A, R, rfl, hA, hR⟩ := List.map_eq_append_iff.1 hrem.symm
    obtain ⟨p, B, rfl, hp, hB⟩ := List.map_eq_cons_iff.1 hR
    have hk : e.key = .int .i64 p.1 := (congrArg Prod.fst hp).symm
    have hv : e.val = p.2 := (congrArg Prod.snd hp).symm
    rw [hk, hv] at hrun
    have hb1 : w1.heap[b]? = some (.map es c) := by rcases hw1 with rfl | rfl <;> exact hb
    have hsz : r < w1.heap.size := by rcases hw1 with rfl | rfl <;> exact hr
    have hput : (w1.putObj r (.mapIter (some b) since (seen.push e.born) c)).heap[r]? = some (.mapIter (some b) since (seen.push e.born) c) := World.putObj_heap_same hsz
    have hbb : (w1.putObj r (.mapIter (some b) since (seen.push e.born) c)).heap[b]? = some (.map es c) := (World.putObj_heap_other (Ne.symm hrb)).trans hb1
    refine ⟨A, p, B, _, w1, rfl, hw1, hrun, ⟨es, c, since, c, seen.push e.born, hbb, hE, hput, hold, hsk, hsk, ?_⟩, ?_⟩
    · rw [show leftOf es (seen.push e.born) = es.filter fun x => !(seen.push e.born).contains x.born from rfl, Array.toList_filter, hf, List.filter_append, List.map_append, List.map_append, hA, hB]
    · have := run_entry_at (P := P) _ r b since seen es c e hput hbb hmem hE.once
      rw [hk, hv] at this
      exact this
/-- for a range over a function: a map that was made ahead of the loop -/
theorem ownFrom_imap {β : Type} {n : Nat} (M : Nat) (hM : M < n) (f : β → List (Int × Value)) : OwnFrom n (fun x W => IMap W M (f x)) := by
  intro s X Y row hs hg hr
  refine hs.at_ (hg.block M hs.lt (fun e => ?_))
  have := (hr M e.symm).1
  omega
end Go.Proofs.Ytcmepdamemnbkaa
namespace Go.Proofs.Ytcmepdamemnbkaa
open Go.RowKit
set_option linter.unusedVariables false
set_option linter.unusedSimpArgs false

/-! ### slots -/
abbrev Slots := List (Nat × Value)
def slot (i : Nat) : Slots → Option Value
  | [] => none
  | p :: r => bif Nat.beq p.1 i then some p.2 else slot i r
def ev (σ : Slots) : Operand → Option Value
  | .tmp t => slot t σ
  | .const v => some v
  | .global g => some (.pointer (some ⟨g, 0, none⟩))
  | .func f => some (.func (.func f) #[] #[])
def evs (σ : Slots) : List Operand → Option (List Value)
  | [] => some []
  | x :: r => match ev σ x, evs σ r with
    | some v, some vs => some (v :: vs)
    | _, _ => none
def putS : Option Tmp → Value → Slots → Slots
  | some d, v, σ => (d, v) :: σ
  | none, _, σ => σ
def dstOK (N : Nat) : Option Tmp → Bool
  | some d => Nat.blt d N
  | none => true
structure SOK (N : Nat) (ds : List Deferred) (σ : Slots) (a : Act) : Prop where
  sz : a.tmps.size = N
  sl : ∀ i v, slot i σ = some v → a.tmps[i]? = some v
  df : a.defers = ds
theorem getD_of {α : Type} {l : Array α} {i : Nat} {v d : α} (h : l[i]? = some v) : l.getD i d = v := by
  rw [Array.getD_eq_getD_getElem?, h]; rfl
theorem SOK.ev {N : Nat} {ds : List Deferred} {σ : Slots} {a : Act} (h : SOK N ds σ a) {x : Operand} {v : Value} (e : ev σ x = some v) : a.eval x = v := by
  cases x with
  | tmp t => exact getD_of (h.sl t v e)
  | const c => exact Option.some.inj e
  | global g => exact Option.some.inj e
  | func f => exact Option.some.inj e
theorem SOK.evs {N : Nat} {ds : List Deferred} {σ : Slots} {a : Act} (h : SOK N ds σ a) : ∀ {xs : List Operand} {vs : List Value}, evs σ xs = some vs → xs.map a.eval = vs
  | [], vs, e => by cases e; rfl
  | x :: r, vs, e => by
    unfold Go.Proofs.Ytcmepdamemnbkaa.evs at e
    split at e
    · rename_i v ws h1 h2
      cases e
      rw [List.map_cons, h.ev h1, h.evs h2]
    · cases e
theorem SOK.put {N : Nat} {ds : List Deferred} {σ : Slots} {a : Act} (h : SOK N ds σ a) {d : Option Tmp} (hd : dstOK N d = true) (v : Value) : SOK N ds (putS d v σ) (a.put d v) := by
  cases d with
  | none => exact h
  | some d =>
    have hlt : d < N := by simpa [dstOK, Nat.blt_eq] using hd
    refine ⟨by simp [Act.put, h.sz], fun i u hu => ?_, h.df⟩
    simp only [Act.put]
    unfold putS slot at hu
    cases hb : Nat.beq d i with
    | true =>
      have e : d = i := Nat.eq_of_beq_eq_true hb
      simp only [hb, cond_true, Option.some.injEq] at hu
      subst e
      subst hu
      rw [Array.getElem?_setIfInBounds_self, if_pos (by rw [h.sz]; exact hlt)]
    | false =>
      have e : d ≠ i := fun e => by subst e; simp at hb
      simp only [hb, cond_false] at hu
      rw [Array.getElem?_setIfInBounds_ne e]
      exact h.sl i u hu
/-- these slots hold, too -/
def subS : Slots → Slots → Prop
  | [], _ => True
  | p :: r, σ => slot p.1 σ = some p.2 ∧ subS r σ
theorem SOK.sub {N : Nat} {ds : List Deferred} {σ : Slots} {a : Act} (h : SOK N ds σ a) : ∀ {σ' : Slots}, subS σ' σ → SOK N ds σ' a
  | [], _ => ⟨h.sz, (fun i v e => by cases e), h.df⟩
  | p :: r, ⟨h1, h2⟩ => by
    have ih := h.sub h2
    refine ⟨h.sz, fun i v e => ?_, h.df⟩
    unfold slot at e
    cases hb : Nat.beq p.1 i with
    | true =>
      have e' : p.1 = i := Nat.eq_of_beq_eq_true hb
      simp only [hb, cond_true, Option.some.injEq] at e
      subst e'
      subst e
      exact h.sl _ _ h1
    | false =>
      simp only [hb, cond_false] at e
      exact ih.sl i v e

/-! ### blocks -/
abbrev HP := Obj → Prop
abbrev Hp := List (Nat × Bool × HP)
/-- a block of cells -/
def cel (cs : List Value) (t : TypeId) : HP := fun o => o = .cells cs.toArray t (0, 0)
/-- what lay in the world w0 lies as it lay, but for the blocks of X -/
structure Kx (X : Nat → Prop) (w0 w : World) : Prop where
  os : w.os = w0.os
  tape : w.tape = w0.tape
  output : w.output = w0.output
  size : w0.heap.size ≤ w.heap.size
  block : ∀ k, k < w0.heap.size → ¬ X k → w.heap[k]? = w0.heap[k]?
def XNone : Nat → Prop := fun _ => False
theorem Kx.refl (X : Nat → Prop) (w : World) : Kx X w w := ⟨rfl, rfl, rfl, Nat.le_refl _, fun _ _ _ => rfl⟩
theorem Kx.below {w0 w : World} (h : Kx XNone w0 w) : Below w0.heap.size w0 w := ⟨h.os, h.tape, h.output, h.size, fun k hk => h.block k hk (fun x => x)⟩
theorem Kx.of_below {X : Nat → Prop} {w0 w : World} (h : Below w0.heap.size w0 w) : Kx X w0 w := ⟨h.os, h.tape, h.output, h.size, fun k hk _ => h.block k hk⟩
theorem Kx.cell {X : Nat → Prop} {w0 w : World} (h : Kx X w0 w) {p : Addr} {v : Value} (hc : w0.cell? p = some v) (hx : ¬ X p.block) : w.cell? p = some v := by
  have hb := World.block_lt_of_cell? w0 p hc
  unfold World.cell? at hc ⊢
  rw [h.block _ hb hx]
  exact hc
structure WOK (w0 : World) (X : Nat → Prop) (η : Hp) (w : World) : Prop where
  kx : Kx X w0 w
  bl : ∀ e ∈ η, ∃ o, w.heap[e.1]? = some o ∧ e.2.2 o
  nd : (η.map (·.1)).Nodup
  ow : ∀ e ∈ η, e.2.1 = true → w0.heap.size ≤ e.1 ∨ X e.1
theorem WOK.start (X : Nat → Prop) (w : World) : WOK w X [] w := ⟨Kx.refl X w, by simp, by simp, by simp⟩
theorem WOK.lt {w0 : World} {X : Nat → Prop} {η : Hp} {w : World} (h : WOK w0 X η w) {e : Nat × Bool × HP} (he : e ∈ η) : e.1 < w.heap.size := by
  obtain ⟨o, h1, _⟩ := h.bl e he
  exact (Array.getElem?_eq_some_iff.1 h1).1
theorem WOK.alloc {w0 : World} {X : Nat → Prop} {η : Hp} {w : World} (h : WOK w0 X η w) (o : Obj) (φ : HP) (hφ : φ o) : WOK w0 X ((w.heap.size, true, φ) :: η) (w.alloc o) := by
  refine ⟨⟨h.kx.os, h.kx.tape, h.kx.output, by simp; have := h.kx.size; omega, fun k hk hx => (Below.heap_alloc w o k (Nat.lt_of_lt_of_le hk h.kx.size)).trans (h.kx.block k hk hx)⟩, ?_, ?_, ?_⟩
  · intro e he
    rcases List.mem_cons.1 he with rfl | he
    · exact ⟨o, heap_alloc_new w o, hφ⟩
    · obtain ⟨o', h1, h2⟩ := h.bl e he
      exact ⟨o', (Below.heap_alloc w o _ (h.lt he)).trans h1, h2⟩
  · simp only [List.map_cons, List.nodup_cons]
    refine ⟨fun hm => ?_, h.nd⟩
    obtain ⟨e, he, h1⟩ := List.mem_map.1 hm
    have := h.lt he
    omega
  · intro e he hw
    rcases List.mem_cons.1 he with rfl | he
    · exact .inl h.kx.size
    · exact h.ow e he hw
/-- a block of the list reads otherwise now -/
inductive Upd (b : Nat) (φ' : HP) : Hp → Hp → Prop
  | head {φ : HP} {r : Hp} : Upd b φ' ((b, true, φ) :: r) ((b, true, φ') :: r)
  | tail {e : Nat × Bool × HP} {r r' : Hp} (h : Upd b φ' r r') : Upd b φ' (e :: r) (e :: r')
theorem Upd.keys {b : Nat} {φ' : HP} {η η' : Hp} (h : Upd b φ' η η') : η'.map (·.1) = η.map (·.1) := by
  induction h with
  | head => rfl
  | tail _ ih => simp only [List.map_cons, ih]
theorem Upd.has {b : Nat} {φ' : HP} {η η' : Hp} (h : Upd b φ' η η') : ∃ φ, (b, true, φ) ∈ η := by
  induction h with
  | head => exact ⟨_, List.mem_cons_self ..⟩
  | tail _ ih => obtain ⟨φ, h⟩ := ih; exact ⟨φ, List.mem_cons_of_mem _ h⟩
theorem Upd.mem {b : Nat} {φ' : HP} {η η' : Hp} (h : Upd b φ' η η') : ∀ e ∈ η', e = (b, true, φ') ∨ e ∈ η := by
  induction h with
  | head =>
    intro e he
    rcases List.mem_cons.1 he with rfl | he
    · exact .inl rfl
    · exact .inr (List.mem_cons_of_mem _ he)
  | tail _ ih =>
    intro e he
    rcases List.mem_cons.1 he with rfl | he
    · exact .inr (List.mem_cons_self ..)
    · rcases ih e he with h | h
      · exact .inl h
      · exact .inr (List.mem_cons_of_mem _ h)
theorem Upd.memNe {b : Nat} {φ' : HP} {η η' : Hp} (h : Upd b φ' η η') (hn : (η.map (·.1)).Nodup) : ∀ e ∈ η', e = (b, true, φ') ∨ (e ∈ η ∧ e.1 ≠ b) := by
  induction h with
  | head =>
    intro e he
    rcases List.mem_cons.1 he with rfl | he
    · exact .inl rfl
    · refine .inr ⟨List.mem_cons_of_mem _ he, fun q => ?_⟩
      simp only [List.map_cons, List.nodup_cons] at hn
      exact hn.1 (List.mem_map.2 ⟨e, he, q⟩)
  | tail h ih =>
    intro e he
    simp only [List.map_cons, List.nodup_cons] at hn
    rcases List.mem_cons.1 he with rfl | he
    · refine .inr ⟨List.mem_cons_self .., fun q => ?_⟩
      obtain ⟨φ, hb⟩ := h.has
      exact hn.1 (List.mem_map.2 ⟨_, hb, q.symm⟩)
    · rcases ih hn.2 e he with h | h
      · exact .inl h
      · exact .inr ⟨List.mem_cons_of_mem _ h.1, h.2⟩
/-- what differs lies in one block alone -/
structure OneB (b : Nat) (w w' : World) : Prop where
  os : w'.os = w.os
  tape : w'.tape = w.tape
  output : w'.output = w.output
  size : w'.heap.size = w.heap.size
  block : ∀ k, k ≠ b → w'.heap[k]? = w.heap[k]?
theorem OneB.refl (b : Nat) (w : World) : OneB b w w := ⟨rfl, rfl, rfl, rfl, fun _ _ => rfl⟩
theorem OneB.trans {b : Nat} {w w1 w2 : World} (h : OneB b w w1) (k : OneB b w1 w2) : OneB b w w2 := ⟨k.os.trans h.os, k.tape.trans h.tape, k.output.trans h.output, k.size.trans h.size, fun i hi => (k.block i hi).trans (h.block i hi)⟩
theorem OneB.setCell (w : World) (b i : Nat) (v : Value) : OneB b w (w.setCell ⟨b, i, none⟩ v) := ⟨rfl, rfl, rfl, by simp, fun k hk => Below.heap_setCell w _ v k hk⟩
theorem OneB.putObj (w : World) (b : Nat) (o : Obj) : OneB b w (w.putObj b o) := ⟨rfl, rfl, rfl, by simp, fun k hk => World.putObj_heap_other hk⟩
theorem WOK.upd {w0 : World} {X : Nat → Prop} {η η' : Hp} {w w' : World} {b : Nat} {φ' : HP} (h : WOK w0 X η w) (hU : Upd b φ' η η') (h1 : OneB b w w') {o : Obj} (ho : w'.heap[b]? = some o) (hφ : φ' o) : WOK w0 X η' w' := by
  obtain ⟨φ, hb⟩ := hU.has
  have hown := h.ow _ hb rfl
  refine ⟨⟨h1.os.trans h.kx.os, h1.tape.trans h.kx.tape, h1.output.trans h.kx.output, by rw [h1.size]; exact h.kx.size, fun k hk hx => ?_⟩, ?_, by rw [hU.keys]; exact h.nd, ?_⟩
  · refine (h1.block k (fun e => ?_)).trans (h.kx.block k hk hx)
    subst e
    rcases hown with h2 | h2
    · exact absurd hk (Nat.not_lt.2 h2)
    · exact hx h2
  · intro e he
    rcases hU.memNe h.nd e he with rfl | ⟨he, hne⟩
    · exact ⟨o, ho, hφ⟩
    · obtain ⟨o', h2, h3⟩ := h.bl e he
      exact ⟨o', (h1.block _ hne).trans h2, h3⟩
  · intro e he hw
    rcases hU.mem e he with rfl | he
    · exact hown
    · exact h.ow e he hw
theorem WOK.below {w0 : World} {X : Nat → Prop} {η : Hp} {w w' : World} (h : WOK w0 X η w) (hb : Below w.heap.size w w') : WOK w0 X η w' := by
  refine ⟨⟨hb.os.trans h.kx.os, hb.tape.trans h.kx.tape, hb.output.trans h.kx.output, Nat.le_trans h.kx.size hb.size, fun k hk hx => (hb.block k (Nat.lt_of_lt_of_le hk h.kx.size)).trans (h.kx.block k hk hx)⟩, ?_, h.nd, h.ow⟩
  intro e he
  obtain ⟨o, h1, h2⟩ := h.bl e he
  exact ⟨o, (hb.block _ (h.lt he)).trans h1, h2⟩
/-- a call has laid a block -/
theorem WOK.more {w0 : World} {X : Nat → Prop} {η : Hp} {w w' : World} (h : WOK w0 X η w) (hb : Below w.heap.size w w') {b : Nat} {o : Obj} {φ : HP} (hbb : w.heap.size ≤ b) (ho : w'.heap[b]? = some o) (hφ : φ o) : WOK w0 X ((b, true, φ) :: η) w' := by
  have h' := h.below hb
  refine ⟨h'.kx, ?_, ?_, ?_⟩
  · intro e he
    rcases List.mem_cons.1 he with rfl | he
    · exact ⟨o, ho, hφ⟩
    · exact h'.bl e he
  · simp only [List.map_cons, List.nodup_cons]
    refine ⟨fun hm => ?_, h.nd⟩
    obtain ⟨e, he, h1⟩ := List.mem_map.1 hm
    have := h.lt he
    omega
  · intro e he hw
    rcases List.mem_cons.1 he with rfl | he
    · exact .inl (Nat.le_trans h.kx.size hbb)
    · exact h.ow e he hw
theorem WOK.drew {w0 : World} {X : Nat → Prop} {η : Hp} {w : World} (h : WOK w0 X η w) : WOK w0 X η w.drew := ⟨⟨h.kx.os, h.kx.tape, h.kx.output, h.kx.size, h.kx.block⟩, h.bl, h.nd, h.ow⟩
def subH : Hp → Hp → Prop
  | [], _ => True
  | e :: r, η => e ∈ η ∧ subH r η
theorem subH_mem : ∀ {η' η : Hp}, subH η' η → ∀ e ∈ η', e ∈ η
  | [], _, _, e, he => by simp at he
  | x :: r, η, h, e, he => by
    rcases List.mem_cons.1 he with rfl | he
    · exact h.1
    · exact subH_mem h.2 e he
/-- fewer blocks, in the same order -/
theorem WOK.sub {w0 : World} {X : Nat → Prop} {η η' : Hp} {w : World} (h : WOK w0 X η w) (hs : List.Sublist η' η) : WOK w0 X η' w :=
  ⟨h.kx, fun e he => h.bl e (hs.subset he), (hs.map _).nodup h.nd, fun e he => h.ow e (hs.subset he)⟩
theorem WOK.perm {w0 : World} {X : Nat → Prop} {η η' : Hp} {w : World} (h : WOK w0 X η w) (hp : List.Perm η η') : WOK w0 X η' w :=
  ⟨h.kx, fun e he => h.bl e (hp.mem_iff.2 he), (hp.map _).nodup_iff.1 h.nd, fun e he => h.ow e (hp.mem_iff.2 he)⟩
theorem WOK.obj {w0 : World} {X : Nat → Prop} {η : Hp} {w : World} (h : WOK w0 X η w) {b : Nat} {wr : Bool} {cs : List Value} {t : TypeId} (he : (b, wr, cel cs t) ∈ η) : w.heap[b]? = some (.cells cs.toArray t (0, 0)) := by
  obtain ⟨o, h1, h2⟩ := h.bl _ he
  rw [h1]
  exact congrArg some h2
theorem WOK.cell {w0 : World} {X : Nat → Prop} {η : Hp} {w : World} (h : WOK w0 X η w) {b : Nat} {wr : Bool} {cs : List Value} {t : TypeId} (he : (b, wr, cel cs t) ∈ η) (i : Nat) {v : Value} (hv : cs[i]? = some v) : w.cell? ⟨b, i, none⟩ = some v := by
  rw [cell_of_row w b i _ t _ (h.obj he)]
  simpa using hv

/-! ### types -/
def look {α : Type} (i : Nat) : List (Nat × α) → Option α
  | [] => none
  | p :: r => bif Nat.beq p.1 i then some p.2 else look i r
theorem look_mem {α : Type} {i : Nat} {v : α} : ∀ {l : List (Nat × α)}, look i l = some v → (i, v) ∈ l
  | [], h => by cases h
  | p :: r, h => by
    unfold look at h
    cases hb : Nat.beq p.1 i with
    | true =>
      simp only [hb, cond_true, Option.some.injEq] at h
      have := Nat.eq_of_beq_eq_true hb
      subst this
      subst h
      exact List.mem_cons_self ..
    | false =>
      simp only [hb, cond_false] at h
      exact List.mem_cons_of_mem _ (look_mem h)
/-- what is known of a program's types: how many cells (0: one, by itself), zero values, where fields lie, elements, kinds of numbers -/
structure Tys (P : Program) where
  mixed : P.follows .mixedOrders = true
  tk : List (Nat × Nat)
  htk : ∀ p ∈ tk, (∀ w, (isAgg p.1).run P w = .ok (Nat.blt 0 p.2) w) ∧ (∀ w, (sizeOf p.1).run P w = .ok (bif Nat.beq p.2 0 then 1 else p.2) w)
  zs : List (Nat × Value)
  hzs : ∀ p ∈ zs, ∀ w, (zeroValue p.1).run P w = .ok p.2 w
  fo : List (Nat × List Nat)
  hfo : ∀ p ∈ fo, ∀ f off, p.2[f]? = some off → ∀ a w, (Instr.fieldAt p.1 (.pointer (some a)) f).run P w = .ok (.pointer (some (a.add off))) w
  el : List (Nat × Nat)
  hel : ∀ p ∈ el, P.underlying p.1 = some (.slice p.2)
  ik : List (Nat × IntKind)
  hik : ∀ p ∈ ik, P.underlying p.1 = some (.int p.2)
  mp : List (Nat × Nat × Nat)
  hmp : ∀ p ∈ mp, P.underlying p.1 = some (.map p.2.1 p.2.2)

/-! ### goals -/
section
variable {P : Program} {ro : Option Nat} {n N : Nat} {ds : List Deferred} {w0 : World} {X : Nat → Prop}
/-- the code c, from these slots and blocks on -/
def XC (P : Program) (ro : Option Nat) (n N : Nat) (ds : List Deferred) (w0 : World) (X : Nat → Prop) (Q : Exit → Act → World → Prop) (σ : Slots) (η : Hp) (c : Code) : Prop :=
  ∀ a w, SOK N ds σ a → WOK w0 X η w → c.wpIn (wideR ro) n P Q a w
/-- the operations that are left of a region -/
def XO (P : Program) (ro : Option Nat) (n N : Nat) (ds : List Deferred) (w0 : World) (X : Nat → Prop) (Q : Exit → Act → World → Prop) (ops : List Oper) (σ : Slots) (η : Hp) (rest : List Oper) : Prop :=
  ∀ a w, SOK N ds σ a → WOK w0 X η w → wpListIn (wideR ro) n P ops.toArray Q rest a w
/-- a way out -/
def XQ (N : Nat) (ds : List Deferred) (w0 : World) (X : Nat → Prop) (Q : Exit → Act → World → Prop) (e : Exit) (σ : Slots) (η : Hp) : Prop :=
  ∀ a w, SOK N ds σ a → WOK w0 X η w → Q e a w
variable {Q : Exit → Act → World → Prop} {σ : Slots} {η : Hp}

theorem xc_seq {x y : Code} (h : XC P ro n N ds w0 X (Exit.then (y.wpIn (wideR ro) n P Q) Q) σ η x) : XC P ro n N ds w0 X Q σ η (.seq x y) := fun a w ha hw => wpIn_seq (h a w ha hw)
theorem xc_skip (h : XQ N ds w0 X Q .normal σ η) : XC P ro n N ds w0 X Q σ η .skip := fun a w ha hw => wpIn_skip (h a w ha hw)
theorem xc_label {l : Nat} (h : XQ N ds w0 X Q .normal σ η) : XC P ro n N ds w0 X Q σ η (.label l) := fun a w ha hw => wpIn_label (h a w ha hw)
theorem xc_exit {id : Nat} (h : XQ N ds w0 X Q (.exit id) σ η) : XC P ro n N ds w0 X Q σ η (.exit id) := fun a w ha hw => wpIn_exit (h a w ha hw)
theorem xc_ret (h : XQ N ds w0 X Q .ret σ η) : XC P ro n N ds w0 X Q σ η .ret := fun a w ha hw => wpIn_ret (h a w ha hw)
theorem xc_block {id : Nat} {c : Code} (h : XC P ro n N ds w0 X (Exit.inBlock id Q) σ η c) : XC P ro n N ds w0 X Q σ η (.block id c) := fun a w ha hw => wpIn_block (h a w ha hw)
theorem xc_scope {c : Code} (h : XC P ro n N ds w0 X (Exit.noGoto Q) σ η c) : XC P ro n N ds w0 X Q σ η (.scope c) := fun a w ha hw => wpIn_scope_straight (h a w ha hw)
theorem xc_cond {c : Operand} {x y : Code} {b : Bool} (hc : ev σ c = some (.bool b)) (ht : b = true → XC P ro n N ds w0 X Q σ η x) (hf : b = false → XC P ro n N ds w0 X Q σ η y) : XC P ro n N ds w0 X Q σ η (.cond c x y) :=
  fun a w ha hw => wpIn_cond_split (ha.ev hc) (fun h => ht h a w ha hw) (fun h => hf h a w ha hw)
theorem xc_condT {c : Operand} {x y : Code} (hc : ev σ c = some (.bool true)) (ht : XC P ro n N ds w0 X Q σ η x) : XC P ro n N ds w0 X Q σ η (.cond c x y) :=
  fun a w ha hw => wpIn_cond_true (ha.ev hc) (ht a w ha hw)
theorem xc_condF {c : Operand} {x y : Code} (hc : ev σ c = some (.bool false)) (hf : XC P ro n N ds w0 X Q σ η y) : XC P ro n N ds w0 X Q σ η (.cond c x y) :=
  fun a w ha hw => wpIn_cond_false (ha.ev hc) (hf a w ha hw)
theorem xc_region {id : Nat} {l : List Oper} (h : XO P ro n N ds w0 X Q l σ η l) : XC P ro n N ds w0 X Q σ η (.region id l.toArray false) := fun a w ha hw => wpIn_region_lit (h a w ha hw)
/-- both ways of a test meet here -/
theorem xc_cut {γ : Type} {x y : Code} (C : γ → Prop) (S : γ → Slots) (H : γ → Hp) (h1 : XC P ro n N ds w0 X (Exit.then (fun a w => ∃ g, C g ∧ SOK N ds (S g) a ∧ WOK w0 X (H g) w) Q) σ η x)
    (h2 : ∀ g, C g → XC P ro n N ds w0 X Q (S g) (H g) y) : XC P ro n N ds w0 X Q σ η (.seq x y) := by
  refine xc_seq fun a w ha hw => wpIn_mono (h1 a w ha hw) ?_
  intro e a' w' hq
  cases e with
  | normal => obtain ⟨g, hg, h3, h4⟩ := hq; exact h2 g hg a' w' h3 h4
  | exit id => exact hq
  | goto l => exact hq
  | ret => exact hq
  | panic c => exact hq
  | outgrown => exact hq
theorem xc_loop {γ : Type} {c : Code} (C : γ → Prop) (S : γ → Slots) (H : γ → Hp) (μ : γ → Nat) (g0 : γ) (hC : C g0) (hs : subS (S g0) σ) (hh : List.Sublist (H g0) η)
    (round : ∀ g, C g → XC P ro n N ds w0 X (Exit.then (fun a w => ∃ k, k < μ g ∧ ∃ g', C g' ∧ μ g' = k ∧ SOK N ds (S g') a ∧ WOK w0 X (H g') w) Q) (S g) (H g) c) : XC P ro n N ds w0 X Q σ η (.loop c) := by
  intro a w ha hw
  refine wpIn_loop_ghost (fun k a w => ∃ g', C g' ∧ μ g' = k ∧ SOK N ds (S g') a ∧ WOK w0 X (H g') w) (μ g0) ⟨g0, hC, rfl, ha.sub hs, hw.sub hh⟩ ?_
  rintro k a w ⟨g, hg, rfl, h1, h2⟩
  exact round g hg a w h1 h2
/-- the round's end -/
theorem xq_again {γ : Type} (C : γ → Prop) (S : γ → Slots) (H : γ → Hp) (μ : γ → Nat) (m : Nat) (g' : γ) (hC : C g') (hm : μ g' < m) (hs : subS (S g') σ) (hh : List.Sublist (H g') η) :
    XQ N ds w0 X (Exit.then (fun a w => ∃ k, k < m ∧ ∃ g', C g' ∧ μ g' = k ∧ SOK N ds (S g') a ∧ WOK w0 X (H g') w) Q) .normal σ η :=
  fun a w ha hw => ⟨_, hm, g', hC, rfl, ha.sub hs, hw.sub hh⟩
theorem xq_meet {γ : Type} (C : γ → Prop) (S : γ → Slots) (H : γ → Hp) (g' : γ) (hC : C g') (hs : subS (S g') σ) (hh : List.Sublist (H g') η) :
    XQ N ds w0 X (Exit.then (fun a w => ∃ g, C g ∧ SOK N ds (S g) a ∧ WOK w0 X (H g) w) Q) .normal σ η :=
  fun a w ha hw => ⟨g', hC, ha.sub hs, hw.sub hh⟩
theorem xq_then {y : Code} (h : XC P ro n N ds w0 X Q σ η y) : XQ N ds w0 X (Exit.then (y.wpIn (wideR ro) n P Q) Q) .normal σ η := h
theorem xq_thenR {K : Act → World → Prop} (h : XQ N ds w0 X Q .ret σ η) : XQ N ds w0 X (Exit.then K Q) .ret σ η := h
theorem xq_thenE {K : Act → World → Prop} {id : Nat} (h : XQ N ds w0 X Q (.exit id) σ η) : XQ N ds w0 X (Exit.then K Q) (.exit id) σ η := h
theorem xq_blockN {id : Nat} (h : XQ N ds w0 X Q .normal σ η) : XQ N ds w0 X (Exit.inBlock id Q) .normal σ η := h
theorem xq_blockR {id : Nat} (h : XQ N ds w0 X Q .ret σ η) : XQ N ds w0 X (Exit.inBlock id Q) .ret σ η := h
theorem xq_blockE {id id' : Nat} (hb : Nat.beq id' id = false) (h : XQ N ds w0 X Q (.exit id') σ η) : XQ N ds w0 X (Exit.inBlock id Q) (.exit id') σ η := fun a w ha hw => by
  have : id' ≠ id := fun e => by subst e; simp at hb
  simp only [Exit.inBlock, if_neg this]
  exact h a w ha hw
theorem xq_blockX {id : Nat} (h : XQ N ds w0 X Q .normal σ η) : XQ N ds w0 X (Exit.inBlock id Q) (.exit id) σ η := fun a w ha hw => by
  simp only [Exit.inBlock, ↓reduceIte]
  exact h a w ha hw
theorem xq_scopeN (h : XQ N ds w0 X Q .normal σ η) : XQ N ds w0 X (Exit.noGoto Q) .normal σ η := h
theorem xq_scopeR (h : XQ N ds w0 X Q .ret σ η) : XQ N ds w0 X (Exit.noGoto Q) .ret σ η := h
theorem xq_scopeE {id : Nat} (h : XQ N ds w0 X Q (.exit id) σ η) : XQ N ds w0 X (Exit.noGoto Q) (.exit id) σ η := h
end
end Go.Proofs.Ytcmepdamemnbkaa
namespace Go.Proofs.Ytcmepdamemnbkaa
open Go.RowKit Go.MapKept
attribute [local go_sem] Oper.semAt_some
set_option linter.unusedVariables false
set_option linter.unusedSimpArgs false

def nthD : Nat → List Oper → Option Tmp
  | _, [] => none
  | 0, o :: _ => o.dst
  | j + 1, _ :: r => nthD j r
def eqB : Bool → Bool → Bool
  | true, w => w
  | false, true => false
  | false, false => true
/-- is an operation wanted? -/
def gS (ops : List Oper) (σ : Slots) : Option (Nat × Bool) → Option Bool
  | none => some true
  | some (j, want) => match nthD j ops with
    | some d => match slot d σ with
      | some (.bool b) => some (eqB b want)
      | some _ => some false
      | none => none
    | none => none
theorem nthD_eq : ∀ (j : Nat) (l : List Oper), nthD j l = (l[j]?).bind (·.dst)
  | _, [] => by simp [nthD]
  | 0, o :: _ => rfl
  | j + 1, _ :: r => by simp [nthD, nthD_eq j r]
def nth {α : Type} : Nat → List α → Option α
  | _, [] => none
  | 0, x :: _ => some x
  | j + 1, _ :: r => nth j r
theorem nth_eq {α : Type} : ∀ (j : Nat) (l : List α), nth j l = l[j]?
  | _, [] => by simp [nth]
  | 0, o :: _ => rfl
  | j + 1, _ :: r => by simp [nth, nth_eq j r]
/-- some cells, from a place on -/
def seg : Nat → Nat → List Value → Option (List Value)
  | 0, 0, _ => some []
  | 0, n + 1, v :: r => match seg 0 n r with
    | some vs => some (v :: vs)
    | none => none
  | o + 1, n, _ :: r => seg o n r
  | _, _, [] => none
theorem seg_get : ∀ (o n : Nat) (cs vs : List Value), seg o n cs = some vs → vs.length = n ∧ ∀ j v, vs[j]? = some v → cs[o + j]? = some v
  | 0, 0, cs, vs, h => by unfold seg at h; cases h; simp
  | 0, n + 1, [], vs, h => by simp [seg] at h
  | 0, n + 1, x :: r, vs, h => by
    unfold seg at h
    split at h
    · rename_i ws hw
      cases h
      have ih := seg_get 0 n r ws hw
      refine ⟨by simp [ih.1], fun j v hj => ?_⟩
      cases j with
      | zero => simpa using hj
      | succ j => have := ih.2 j v (by simpa using hj); simpa using this
    · cases h
  | o + 1, n, [], vs, h => by cases n <;> simp [seg] at h
  | o + 1, n, x :: r, vs, h => by
    have h' : seg o n r = some vs := by cases n <;> simpa [seg] using h
    have ih := seg_get o n r vs h'
    refine ⟨ih.1, fun j v hj => ?_⟩
    have := ih.2 j v hj
    rw [show o + 1 + j = (o + j) + 1 from by omega]
    simpa using this
/-- cells written over, from a place on -/
def setSeg : Nat → List Value → List Value → Option (List Value)
  | 0, [], cs => some cs
  | 0, v :: vs, _ :: r => match setSeg 0 vs r with
    | some r' => some (v :: r')
    | none => none
  | o + 1, vs, x :: r => match setSeg o vs r with
    | some r' => some (x :: r')
    | none => none
  | _, _, [] => none

section
variable {P : Program} {ro : Option Nat} {n N : Nat} {ds : List Deferred} {w0 : World} {X : Nat → Prop} {Q : Exit → Act → World → Prop} {ops : List Oper} {σ : Slots} {η : Hp} {rest : List Oper}
variable {d : Option Tmp} {ty : TypeId} {pos : String} {aft : Array Edge} {g : Option (Nat × Bool)}

theorem wanted_of {a : Act} (ha : SOK N ds σ a) {o : Oper} {b : Bool} (h : gS ops σ o.guard = some b) : Region.wanted o (yielded ops.toArray a.tmps) = b := by
  unfold gS at h
  unfold Region.wanted
  split at h
  · rename_i hg
    cases h
    rw [hg]
  · rename_i j want hg
    rw [hg]
    split at h
    · rename_i dd hd
      split at h
      · rename_i bb hs
        cases h
        have h1 := ha.sl _ _ hs
        rw [nthD_eq] at hd
        have hd' : (ops.toArray[j]?).bind (·.dst) = some dd := by simpa using hd
        simp only [yielded, hd', Option.bind_some, h1]
        cases bb <;> cases want <;> rfl
      · rename_i v hnb hs
        cases h
        have h1 := ha.sl _ _ hs
        rw [nthD_eq] at hd
        have hd' : (ops.toArray[j]?).bind (·.dst) = some dd := by simpa using hd
        simp only [yielded, hd', Option.bind_some, h1]
        cases v <;> first | rfl | exact absurd rfl (hnb _)
      · cases h
    · cases h

theorem xo_nil (h : XQ N ds w0 X Q .normal σ η) : XO P ro n N ds w0 X Q ops σ η [] := fun a w ha hw => h a w ha hw
theorem xo_base {o : Oper} (hd : isDefer o.op = false) (hg : gS ops σ o.guard = some true)
    (h : ∀ a w, SOK N ds σ a → WOK w0 X η w → ∃ nx w' v, (execOp a.eval o).run P w = .ok nx w' ∧ (nx = .value v ∨ (nx = .skip ∧ v = undef)) ∧ wpListIn (wideR ro) n P ops.toArray Q rest (a.put o.dst v) w') :
    XO P ro n N ds w0 X Q ops σ η (o :: rest) := by
  intro a w ha hw
  unfold wpListIn
  rw [if_pos (wanted_of ha hg)]
  refine ⟨fun _ _ => trivial, ?_⟩
  have hd' : ∀ c, o.op ≠ .defer c := fun c e => by rw [e] at hd; simp [isDefer] at hd
  rw [show (wideR ro).round = ro from rfl, Oper.semAt_eq ro _ _ hd']
  obtain ⟨nx, w', v, hr, hn, hk⟩ := h a w ha hw
  rw [hr]
  rcases hn with rfl | ⟨rfl, rfl⟩
  · exact hk
  · exact hk
/-- an operation that isn't wanted -/
theorem xo_not {o : Oper} (hg : gS ops σ o.guard = some false) (hN : dstOK N o.dst = true) (h : XO P ro n N ds w0 X Q ops (putS o.dst undef σ) η rest) : XO P ro n N ds w0 X Q ops σ η (o :: rest) := by
  intro a w ha hw
  unfold wpListIn
  rw [if_neg (by rw [wanted_of ha hg]; simp)]
  exact ⟨fun _ _ => trivial, h _ _ (ha.put hN _) hw⟩
theorem xo_val {o : Oper} (v : Value) (hd : isDefer o.op = false) (hg : gS ops σ o.guard = some true) (hN : dstOK N o.dst = true) (hrun : ∀ a w, SOK N ds σ a → WOK w0 X η w → (execOp a.eval o).run P w = .ok (.value v) w)
    (h : XO P ro n N ds w0 X Q ops (putS o.dst v σ) η rest) : XO P ro n N ds w0 X Q ops σ η (o :: rest) :=
  xo_base hd hg fun a w ha hw => ⟨_, w, v, hrun a w ha hw, .inl rfl, h _ _ (ha.put hN v) hw⟩
/-- both ways of what a slot holds -/
theorem xo_split {i : Tmp} {b : Bool} (hb : slot i σ = some (.bool b)) (hN : Nat.blt i N = true) (ht : b = true → XO P ro n N ds w0 X Q ops ((i, .bool true) :: σ) η rest) (hf : b = false → XO P ro n N ds w0 X Q ops ((i, .bool false) :: σ) η rest) :
    XO P ro n N ds w0 X Q ops σ η rest := by
  intro a w ha hw
  have key : SOK N ds ((i, .bool b) :: σ) a := by
    refine ⟨ha.sz, fun j v hj => ?_, ha.df⟩
    unfold slot at hj
    cases hq : Nat.beq i j with
    | true =>
      have e := Nat.eq_of_beq_eq_true hq
      simp only [hq, cond_true, Option.some.injEq] at hj
      subst e
      subst hj
      exact ha.sl _ _ hb
    | false =>
      simp only [hq, cond_false] at hj
      exact ha.sl _ _ hj
  cases b with
  | true => exact ht rfl a w key hw
  | false => exact hf rfl a w key hw
/-- what a slot holds, told otherwise -/
theorem xo_as {i : Tmp} {u v : Value} (hb : slot i σ = some u) (e : u = v) (h : XO P ro n N ds w0 X Q ops ((i, v) :: σ) η rest) : XO P ro n N ds w0 X Q ops σ η rest := by
  intro a w ha hw
  refine h a w ⟨ha.sz, fun j z hj => ?_, ha.df⟩ hw
  unfold slot at hj
  cases hq : Nat.beq i j with
  | true =>
    have e' := Nat.eq_of_beq_eq_true hq
    simp only [hq, cond_true, Option.some.injEq] at hj
    subst e'
    subst hj
    exact e ▸ ha.sl _ _ hb
  | false =>
    simp only [hq, cond_false] at hj
    exact ha.sl _ _ hj

theorem xo_mv {x : Operand} {v : Value} (hg : gS ops σ g = some true) (hx : ev σ x = some v) (hN : dstOK N d = true) (h : XO P ro n N ds w0 X Q ops (putS d v σ) η rest) : XO P ro n N ds w0 X Q ops σ η (⟨d, .move x, ty, pos, aft, g⟩ :: rest) :=
  xo_val v rfl hg hN (fun a w ha hw => by simp only [execOp, ha.ev hx]; rfl) h
theorem xo_asg {x : Operand} {v : Value} (hg : gS ops σ g = some true) (hx : ev σ x = some v) (hN : dstOK N d = true) (h : XO P ro n N ds w0 X Q ops (putS d v σ) η rest) : XO P ro n N ds w0 X Q ops σ η (⟨d, .assign x, ty, pos, aft, g⟩ :: rest) :=
  xo_val v rfl hg hN (fun a w ha hw => by simp only [execOp, ha.ev hx]; rfl) h
theorem xo_pickT {c x y : Operand} {v : Value} (hg : gS ops σ g = some true) (hc : ev σ c = some (.bool true)) (hx : ev σ x = some v) (hN : dstOK N d = true) (h : XO P ro n N ds w0 X Q ops (putS d v σ) η rest) : XO P ro n N ds w0 X Q ops σ η (⟨d, .pick c x y, ty, pos, aft, g⟩ :: rest) :=
  xo_val v rfl hg hN (fun a w ha hw => by simp [execOp, ha.ev hc, ha.ev hx, asBool]) h
theorem xo_pickF {c x y : Operand} {v : Value} (hg : gS ops σ g = some true) (hc : ev σ c = some (.bool false)) (hx : ev σ y = some v) (hN : dstOK N d = true) (h : XO P ro n N ds w0 X Q ops (putS d v σ) η rest) : XO P ro n N ds w0 X Q ops σ η (⟨d, .pick c x y, ty, pos, aft, g⟩ :: rest) :=
  xo_val v rfl hg hN (fun a w ha hw => by simp [execOp, ha.ev hc, ha.ev hx, asBool]) h
theorem xo_notOp {x : Operand} {t : TypeId} {b : Bool} (hg : gS ops σ g = some true) (hx : ev σ x = some (.bool b)) (hN : dstOK N d = true) (h : XO P ro n N ds w0 X Q ops (putS d (.bool (!b)) σ) η rest) : XO P ro n N ds w0 X Q ops σ η (⟨d, .unOp .not t x, ty, pos, aft, g⟩ :: rest) :=
  xo_val _ rfl hg hN (fun a w ha hw => by simp only [execOp, ha.ev hx]; rfl) h
section
variable {t t' : TypeId} {x y : Operand} {k : IntKind} {a b : Int}
theorem xo_lss (hg : gS ops σ g = some true) (hx : ev σ x = some (.int k a)) (hy : ev σ y = some (.int k b)) (hN : dstOK N d = true) (h : XO P ro n N ds w0 X Q ops (putS d (.bool (decide (a < b))) σ) η rest) : XO P ro n N ds w0 X Q ops σ η (⟨d, .binOp .lss t x y t', ty, pos, aft, g⟩ :: rest) :=
  xo_val _ rfl hg hN (fun _ w ha hw => by simp [execOp, ha.ev hx, ha.ev hy, eqGuard_lss, binOp_lss]) h
theorem xo_leq (hg : gS ops σ g = some true) (hx : ev σ x = some (.int k a)) (hy : ev σ y = some (.int k b)) (hN : dstOK N d = true) (h : XO P ro n N ds w0 X Q ops (putS d (.bool (decide (a ≤ b))) σ) η rest) : XO P ro n N ds w0 X Q ops σ η (⟨d, .binOp .leq t x y t', ty, pos, aft, g⟩ :: rest) :=
  xo_val _ rfl hg hN (fun _ w ha hw => by simp [execOp, ha.ev hx, ha.ev hy, eqGuard_leq, binOp_leq]) h
theorem xo_gtr (hg : gS ops σ g = some true) (hx : ev σ x = some (.int k a)) (hy : ev σ y = some (.int k b)) (hN : dstOK N d = true) (h : XO P ro n N ds w0 X Q ops (putS d (.bool (decide (b < a))) σ) η rest) : XO P ro n N ds w0 X Q ops σ η (⟨d, .binOp .gtr t x y t', ty, pos, aft, g⟩ :: rest) :=
  xo_val _ rfl hg hN (fun _ w ha hw => by simp [execOp, ha.ev hx, ha.ev hy, eqGuard_gtr, binOp_gtr]) h
theorem xo_geq (hg : gS ops σ g = some true) (hx : ev σ x = some (.int k a)) (hy : ev σ y = some (.int k b)) (hN : dstOK N d = true) (h : XO P ro n N ds w0 X Q ops (putS d (.bool (decide (b ≤ a))) σ) η rest) : XO P ro n N ds w0 X Q ops σ η (⟨d, .binOp .geq t x y t', ty, pos, aft, g⟩ :: rest) :=
  xo_val _ rfl hg hN (fun _ w ha hw => by simp [execOp, ha.ev hx, ha.ev hy, eqGuard_geq, binOp_geq]) h
theorem xo_eql (hg : gS ops σ g = some true) (hx : ev σ x = some (.int k a)) (hy : ev σ y = some (.int k b)) (hN : dstOK N d = true) (h : XO P ro n N ds w0 X Q ops (putS d (.bool (decide (a = b))) σ) η rest) : XO P ro n N ds w0 X Q ops σ η (⟨d, .binOp .eql t x y t', ty, pos, aft, g⟩ :: rest) :=
  xo_val _ rfl hg hN (fun _ w ha hw => by simp [execOp, ha.ev hx, ha.ev hy, eqGuard_at_int, binOp_eql]; rfl) h
theorem xo_neq (hg : gS ops σ g = some true) (hx : ev σ x = some (.int k a)) (hy : ev σ y = some (.int k b)) (hN : dstOK N d = true) (h : XO P ro n N ds w0 X Q ops (putS d (.bool (!decide (a = b))) σ) η rest) : XO P ro n N ds w0 X Q ops σ η (⟨d, .binOp .neq t x y t', ty, pos, aft, g⟩ :: rest) :=
  xo_val _ rfl hg hN (fun _ w ha hw => by simp [execOp, ha.ev hx, ha.ev hy, eqGuard_at_int, binOp_neq]; rfl) h
theorem xo_add (hg : gS ops σ g = some true) (hx : ev σ x = some (.int .i64 a)) (hy : ev σ y = some (.int .i64 b)) (hb : -9223372036854775808 ≤ a + b ∧ a + b ≤ 9223372036854775807) (hN : dstOK N d = true) (h : XO P ro n N ds w0 X Q ops (putS d (.int .i64 (a + b)) σ) η rest) : XO P ro n N ds w0 X Q ops σ η (⟨d, .binOp .add t x y t', ty, pos, aft, g⟩ :: rest) :=
  xo_val _ rfl hg hN (fun _ w ha hw => by simp [execOp, ha.ev hx, ha.ev hy, eqGuard_add, binOp_add, Op.intArith, IntWalk.i64_in _ hb]) h
theorem xo_sub (hg : gS ops σ g = some true) (hx : ev σ x = some (.int .i64 a)) (hy : ev σ y = some (.int .i64 b)) (hb : -9223372036854775808 ≤ a - b ∧ a - b ≤ 9223372036854775807) (hN : dstOK N d = true) (h : XO P ro n N ds w0 X Q ops (putS d (.int .i64 (a - b)) σ) η rest) : XO P ro n N ds w0 X Q ops σ η (⟨d, .binOp .sub t x y t', ty, pos, aft, g⟩ :: rest) :=
  xo_val _ rfl hg hN (fun _ w ha hw => by simp [execOp, ha.ev hx, ha.ev hy, eqGuard_sub, binOp_sub, Op.intArith, IntWalk.i64_in _ hb]) h
theorem xo_mul (hg : gS ops σ g = some true) (hx : ev σ x = some (.int .i64 a)) (hy : ev σ y = some (.int .i64 b)) (hb : -9223372036854775808 ≤ a * b ∧ a * b ≤ 9223372036854775807) (hN : dstOK N d = true) (h : XO P ro n N ds w0 X Q ops (putS d (.int .i64 (a * b)) σ) η rest) : XO P ro n N ds w0 X Q ops σ η (⟨d, .binOp .mul t x y t', ty, pos, aft, g⟩ :: rest) :=
  xo_val _ rfl hg hN (fun _ w ha hw => by simp [execOp, ha.ev hx, ha.ev hy, eqGuard_mul, binOp_mul, Op.intArith, IntWalk.i64_in _ hb]) h
end
theorem look_ik (T : Tys P) {t : TypeId} {k : IntKind} (h : look t T.ik = some k) : P.underlying t = some (.int k) := T.hik _ (look_mem h)
theorem xo_conv (T : Tys P) {src dst : TypeId} {x : Operand} {k k' : IntKind} {a : Int} (hg : gS ops σ g = some true) (hs : look src T.ik = some k) (hdt : look dst T.ik = some k') (hx : ev σ x = some (.int k a)) (hb : k'.wrap a = a) (hN : dstOK N d = true) (h : XO P ro n N ds w0 X Q ops (putS d (.int k' a) σ) η rest) :
    XO P ro n N ds w0 X Q ops σ η (⟨d, .convert src dst x, ty, pos, aft, g⟩ :: rest) := by
  refine xo_val _ rfl hg hN (fun _ w ha hw => ?_) h
  have h1 := look_ik T hs
  have h2 := look_ik T hdt
  have hk : P.intKind dst = k' := by simp [Program.intKind, h2]
  have := run_convert_int (P := P) w src dst k a (by simp [h1]) (by rw [hk]; exact h2)
  rw [hk, hb] at this
  simp [execOp, ha.ev hx, this]
theorem xo_ext {x : Operand} {i : Nat} {vs : List Value} {v : Value} (hg : gS ops σ g = some true) (hx : ev σ x = some (.tuple vs.toArray)) (hi : nth i vs = some v) (hN : dstOK N d = true) (h : XO P ro n N ds w0 X Q ops (putS d v σ) η rest) : XO P ro n N ds w0 X Q ops σ η (⟨d, .extract x i, ty, pos, aft, g⟩ :: rest) :=
  xo_val v rfl hg hN (fun a w ha hw => by rw [nth_eq] at hi; simp [execOp, ha.ev hx, Instr.extract, hi]) h
theorem xo_mkf {fn : Fn} {first cap : List Operand} {vs us : List Value} (hg : gS ops σ g = some true) (h1 : evs σ first = some vs) (h2 : evs σ cap = some us) (hN : dstOK N d = true) (h : XO P ro n N ds w0 X Q ops (putS d (.func fn vs.toArray us.toArray) σ) η rest) : XO P ro n N ds w0 X Q ops σ η (⟨d, .makeFunc fn first.toArray cap.toArray, ty, pos, aft, g⟩ :: rest) :=
  xo_val _ rfl hg hN (fun a w ha hw => by simp [execOp, Instr.makeFunc, ha.evs h1, ha.evs h2]) h
theorem xo_fa (T : Tys P) {s : TypeId} {x : Operand} {f : Nat} {offs : List Nat} {off : Nat} {b o : Nat} (hg : gS ops σ g = some true) (hs : look s T.fo = some offs) (ho : nth f offs = some off) (hx : ev σ x = some (.pointer (some ⟨b, o, none⟩))) (hN : dstOK N d = true)
    (h : XO P ro n N ds w0 X Q ops (putS d (.pointer (some ⟨b, o + off, none⟩)) σ) η rest) : XO P ro n N ds w0 X Q ops σ η (⟨d, .fieldAddr s x f, ty, pos, aft, g⟩ :: rest) :=
  xo_val _ rfl hg hN (fun a w ha hw => by
    have := T.hfo _ (look_mem hs) f off (by rw [← nth_eq]; exact ho) ⟨b, o, none⟩ w
    rw [Addr.add_lit] at this
    simp [execOp, ha.ev hx, this]) h
/-- the field's place in what came in -/
theorem xo_faR (T : Tys P) {s : TypeId} {x : Operand} {f : Nat} {offs : List Nat} {off : Nat} {p : Addr} (hg : gS ops σ g = some true) (hs : look s T.fo = some offs) (ho : nth f offs = some off) (hx : ev σ x = some (.pointer (some p))) (hN : dstOK N d = true)
    (h : XO P ro n N ds w0 X Q ops (putS d (.pointer (some (p.add off))) σ) η rest) : XO P ro n N ds w0 X Q ops σ η (⟨d, .fieldAddr s x f, ty, pos, aft, g⟩ :: rest) :=
  xo_val _ rfl hg hN (fun a w ha hw => by
    have := T.hfo _ (look_mem hs) f off (by rw [← nth_eq]; exact ho) p w
    simp [execOp, ha.ev hx, this]) h
def szN (k : Nat) : Nat := bif Nat.beq k 0 then 1 else k
theorem xo_ia (T : Tys P) {t e : TypeId} {k0 : Nat} {x ix : Operand} {p : Addr} {len cap : Nat} {k : IntKind} {i : Int} (hg : gS ops σ g = some true) (he : look t T.el = some e) (hk : look e T.tk = some k0) (hx : ev σ x = some (.slice (some p) len cap)) (hi : ev σ ix = some (.int k i))
    (hb : 0 ≤ i ∧ i < (len : Int)) (hN : dstOK N d = true) (h : XO P ro n N ds w0 X Q ops (putS d (.pointer (some (p.add (i.toNat * szN k0)))) σ) η rest) : XO P ro n N ds w0 X Q ops σ η (⟨d, .indexAddr t x ix, ty, pos, aft, g⟩ :: rest) := by
  refine xo_val _ rfl hg hN (fun a w ha hw => ?_) h
  have h1 := T.hel _ (look_mem he)
  simp only at h1
  have h2 := (T.htk _ (look_mem hk)).2 w
  have hel : P.elem t = e := by simp [Program.elem, h1]
  have := run_indexAt_slice (P := P) w t p len cap k i (by rw [hel]; exact h1)
  rw [if_pos hb, hel, h2] at this
  simp only [Result.andThen_ok] at this
  simp [execOp, ha.ev hx, ha.ev hi, this, szN]
/-- cells that came in, and lie there still -/
def RO (w0 : World) (X : Nat → Prop) (p : Addr) (cs : List Value) : Prop := ∀ j v, cs[j]? = some v → w0.cell? (p.add j) = some v ∧ ¬ X (p.add j).block
theorem xo_load0 (T : Tys P) {t : TypeId} {x : Operand} {b i : Nat} {wr : Bool} {cs : List Value} {te : TypeId} {v : Value} (hg : gS ops σ g = some true) (ht : look t T.tk = some 0) (hx : ev σ x = some (.pointer (some ⟨b, i, none⟩))) (hm : (b, wr, cel cs te) ∈ η) (hv : nth i cs = some v) (hN : dstOK N d = true)
    (h : XO P ro n N ds w0 X Q ops (putS d v σ) η rest) : XO P ro n N ds w0 X Q ops σ η (⟨d, .load t x, ty, pos, aft, g⟩ :: rest) :=
  xo_val v rfl hg hN (fun a w ha hw => by
    have h1 := (T.htk _ (look_mem ht)).1 w
    have h2 := hw.cell hm i (by rw [← nth_eq]; exact hv)
    simp [execOp, ha.ev hx, Instr.loadAt, Instr.sureAddr, loadVar, h1, h2]) h
theorem xo_loadN (T : Tys P) {t : TypeId} {x : Operand} {b i k : Nat} {wr : Bool} {cs vs : List Value} {te : TypeId} (hg : gS ops σ g = some true) (ht : look t T.tk = some (k + 1)) (hx : ev σ x = some (.pointer (some ⟨b, i, none⟩))) (hm : (b, wr, cel cs te) ∈ η) (hv : seg i (k + 1) cs = some vs) (hN : dstOK N d = true)
    (h : XO P ro n N ds w0 X Q ops (putS d (.agg vs.toArray) σ) η rest) : XO P ro n N ds w0 X Q ops σ η (⟨d, .load t x, ty, pos, aft, g⟩ :: rest) :=
  xo_val _ rfl hg hN (fun a w ha hw => by
    obtain ⟨h1, h3_⟩ := T.htk _ (look_mem ht)
    have h3 : ∀ w, (sizeOf t).run P w = .ok (k + 1) w := h3_
    have h1 : ∀ w, (isAgg t).run P w = .ok true w := fun w => (h1 w).trans (by simp [Nat.blt])
    clear h3_
    have hs := seg_get _ _ _ _ hv
    have h2 := run_loadCells_list (P := P) (w := w) ⟨b, i, none⟩ vs (fun j v hj => by rw [Addr.add_lit]; exact hw.cell hm (i + j) (hs.2 j v hj))
    rw [hs.1] at h2
    simp [execOp, ha.ev hx, Instr.loadAt, Instr.sureAddr, loadVar, h1, h3, h2]) h
theorem xo_loadR0 (T : Tys P) {t : TypeId} {x : Operand} {p : Addr} {v : Value} (hg : gS ops σ g = some true) (ht : look t T.tk = some 0) (hx : ev σ x = some (.pointer (some p))) (hc : RO w0 X p [v]) (hN : dstOK N d = true)
    (h : XO P ro n N ds w0 X Q ops (putS d v σ) η rest) : XO P ro n N ds w0 X Q ops σ η (⟨d, .load t x, ty, pos, aft, g⟩ :: rest) :=
  xo_val v rfl hg hN (fun a w ha hw => by
    have h1 := (T.htk _ (look_mem ht)).1 w
    have h0 := hc 0 v rfl
    rw [Addr.add_zero'] at h0
    have h2 := hw.kx.cell h0.1 h0.2
    simp [execOp, ha.ev hx, Instr.loadAt, Instr.sureAddr, loadVar, h1, h2]) h
theorem xo_loadRN (T : Tys P) {t : TypeId} {x : Operand} {p : Addr} {k : Nat} {vs : List Value} (hg : gS ops σ g = some true) (ht : look t T.tk = some (k + 1)) (hx : ev σ x = some (.pointer (some p))) (hc : RO w0 X p vs) (hl : vs.length = k + 1) (hN : dstOK N d = true)
    (h : XO P ro n N ds w0 X Q ops (putS d (.agg vs.toArray) σ) η rest) : XO P ro n N ds w0 X Q ops σ η (⟨d, .load t x, ty, pos, aft, g⟩ :: rest) :=
  xo_val _ rfl hg hN (fun a w ha hw => by
    obtain ⟨h1, h3_⟩ := T.htk _ (look_mem ht)
    have h3 : ∀ w, (sizeOf t).run P w = .ok (k + 1) w := h3_
    have h1 : ∀ w, (isAgg t).run P w = .ok true w := fun w => (h1 w).trans (by simp [Nat.blt])
    clear h3_
    have h2 := run_loadCells_list (P := P) (w := w) p vs (fun j v hj => hw.kx.cell (hc j v hj).1 (hc j v hj).2)
    rw [hl] at h2
    simp [execOp, ha.ev hx, Instr.loadAt, Instr.sureAddr, loadVar, h1, h3, h2]) h
theorem xo_alloc (T : Tys P) {t : TypeId} {z : Value} {cs : List Value} (hg : gS ops σ g = some true) (hz : look t T.zs = some z) (hc : z.cells.toList = cs) (hN : dstOK N d = true)
    (h : ∀ b, XO P ro n N ds w0 X Q ops (putS d (.pointer (some ⟨b, 0, none⟩)) σ) ((b, true, cel cs t) :: η) rest) : XO P ro n N ds w0 X Q ops σ η (⟨d, .alloc t, ty, pos, aft, g⟩ :: rest) :=
  xo_base rfl hg fun a w ha hw => by
    have h1 := T.hzs _ (look_mem hz) w
    refine ⟨_, w.alloc (.cells z.cells t), .pointer (some ⟨w.heap.size, 0, none⟩), ?_, .inl rfl, h _ _ _ (ha.put hN _) (hw.alloc _ _ ?_)⟩
    · simp only [execOp, Instr.alloc, Sem.run_bind, h1, Result.andThen_ok]
      rfl
    · rw [← hc]; simp [cel]
theorem xo_box {t : TypeId} {x : Operand} {v : Value} {cs : List Value} (hg : gS ops σ g = some true) (hx : ev σ x = some v) (hc : v.cells.toList = cs) (hN : dstOK N d = true)
    (h : ∀ b, XO P ro n N ds w0 X Q ops (putS d (.pointer (some ⟨b, 0, none⟩)) σ) ((b, true, cel cs t) :: η) rest) : XO P ro n N ds w0 X Q ops σ η (⟨d, .box t x, ty, pos, aft, g⟩ :: rest) :=
  xo_base rfl hg fun a w ha hw => by
    refine ⟨_, w.alloc (.cells v.cells t), .pointer (some ⟨w.heap.size, 0, none⟩), ?_, .inl rfl, h _ _ _ (ha.put hN _) (hw.alloc _ _ ?_)⟩
    · simp only [execOp, Instr.box, Sem.run_bind, ha.ev hx, Result.andThen_ok]
      rfl
    · rw [← hc]; simp [cel]
theorem run_storeCells (b : Nat) (te : TypeId) : ∀ (vs cs : List Value) (i j : Nat) (cs' : List Value) (w : World), (∀ v ∈ vs, v.oneCell' = true) → setSeg (i + j) vs cs = some cs' → w.heap[b]? = some (.cells cs.toArray te (0, 0)) →
    ∃ w', (storeCells ⟨b, i, none⟩ vs j).run P w = .ok () w' ∧ OneB b w w' ∧ w'.heap[b]? = some (.cells cs'.toArray te (0, 0)) := by
  have put1 : ∀ (k : Nat) (v : Value) (vs cs cs' : List Value), setSeg k (v :: vs) cs = some cs' → k < cs.length ∧ setSeg (k + 1) vs (cs.set k v) = some cs' := by
    intro k
    induction k with
    | zero =>
      intro v vs cs cs' h
      cases cs with
      | nil => simp [setSeg] at h
      | cons x r =>
        simp only [setSeg] at h
        split at h
        · rename_i r' hr
          cases h
          refine ⟨by simp, ?_⟩
          simp only [List.set_cons_zero, setSeg, Nat.zero_add, hr]
        · cases h
    | succ k ih =>
      intro v vs cs cs' h
      cases cs with
      | nil => simp [setSeg] at h
      | cons x r =>
        simp only [setSeg] at h
        split at h
        · rename_i r' hr
          cases h
          have := ih v vs r r' hr
          refine ⟨by simp; exact this.1, ?_⟩
          simp only [List.set_cons_succ, setSeg, this.2]
        · cases h
  have done : ∀ (k : Nat) (cs cs' : List Value), setSeg k [] cs = some cs' → cs' = cs := by
    intro k
    induction k with
    | zero => intro cs cs' h; simp [setSeg] at h; exact h.symm
    | succ k ih =>
      intro cs cs' h
      cases cs with
      | nil => simp [setSeg] at h
      | cons x r =>
        simp only [setSeg] at h
        split at h
        · rename_i r' hr
          cases h
          rw [ih r r' hr]
        · cases h
  intro vs
  induction vs with
  | nil =>
    intro cs i j cs' w _ hs hb
    have := done _ _ _ hs
    subst this
    exact ⟨w, rfl, OneB.refl b w, hb⟩
  | cons v vs ih =>
    intro cs i j cs' w h1 hs hb
    obtain ⟨hlt, hs'⟩ := put1 _ _ _ _ _ hs
    have hcell : w.cell? ⟨b, i + j, none⟩ = some (cs[i + j]'hlt) := by
      rw [cell_of_row w b (i + j) _ te _ hb]
      simp [List.getElem?_eq_getElem hlt]
    have hfz : w.frozen? ⟨b, i + j, none⟩ = false := frozen_of_row w b (i + j) _ te hb
    have hst : (store ⟨b, i + j, none⟩ v .plain).run P w = .ok () (w.setCell ⟨b, i + j, none⟩ v) := by
      rw [run_store P w _ v _ (h1 v (List.mem_cons_self ..)), hcell]
      simp [hfz]
    have hb' : (w.setCell ⟨b, i + j, none⟩ v).heap[b]? = some (.cells (cs.set (i + j) v).toArray te (0, 0)) := by
      rw [heap_setCell_same w b (i + j) _ te v hb]
      simp
    obtain ⟨w', hr, ho, hb2⟩ := ih (cs.set (i + j) v) i (j + 1) cs' _ (fun u hu => h1 u (List.mem_cons_of_mem _ hu)) (by rw [show i + (j + 1) = i + j + 1 from rfl]; exact hs') hb'
    refine ⟨w', ?_, (OneB.setCell w b (i + j) v).trans ho, hb2⟩
    simp only [storeCells, Addr.add_lit, Sem.run_bind, hst, Result.andThen_ok, hr]
theorem xo_store (T : Tys P) {t : TypeId} {p x : Operand} {b i k0 : Nat} {cs cs' vs : List Value} {te : TypeId} {v : Value} {η' : Hp} (hg : gS ops σ g = some true) (ht : look t T.tk = some k0) (hp : ev σ p = some (.pointer (some ⟨b, i, none⟩))) (hx : ev σ x = some v)
    (hm : (b, true, cel cs te) ∈ η) (hvs : v.cells.toList = vs) (hl : Nat.beq vs.length (szN k0) = true) (h1 : vs.all (·.oneCell') = true) (hs : setSeg i vs cs = some cs') (hU : Upd b (cel cs' te) η η') (hN : dstOK N d = true)
    (h : XO P ro n N ds w0 X Q ops (putS d undef σ) η' rest) : XO P ro n N ds w0 X Q ops σ η (⟨d, .store t p x, ty, pos, aft, g⟩ :: rest) :=
  xo_base rfl hg fun a w ha hw => by
    have h2 := (T.htk _ (look_mem ht)).2 w
    obtain ⟨w', hr, ho, hb⟩ := run_storeCells (P := P) b te vs cs i 0 cs' w (by simpa using h1) hs (hw.obj hm)
    refine ⟨_, w', undef, ?_, .inr ⟨rfl, rfl⟩, h _ _ (ha.put hN _) (hw.upd hU ho hb rfl)⟩
    have hlen : v.cells.size = szN k0 := by have := Nat.eq_of_beq_eq_true hl; rw [← this, ← hvs]; simp
    unfold szN at hlen
    simp only [execOp, ha.ev hp, ha.ev hx, Instr.storeAt, Instr.sureAddr, storeVar, Sem.run_bind, Sem.run_pure, Result.andThen_ok, h2, hlen, hvs, hr, ne_eq, not_true_eq_false, ↓reduceIte]
end
end Go.Proofs.Ytcmepdamemnbkaa
namespace Go.Proofs.Ytcmepdamemnbkaa
open Go.RowKit Go.MapKept
attribute [local go_sem] Oper.semAt_some
set_option linter.unusedVariables false
set_option linter.unusedSimpArgs false

/-- a block that is a map of whole numbers to values -/
def hmap (l : List (Int × Value)) : HP := fun o => ∃ es c, o = .map es c ∧ Ents es c l
/-- a set of whole numbers: a map to true -/
def setV (s : List Int) : List (Int × Value) := s.map fun i => (i, .bool true)
theorem imGet_setV (x : Int) : ∀ s : List Int, imGet x (setV s) = if x ∈ s then some (.bool true) else none
  | [] => rfl
  | p :: r => by
    simp only [setV, List.map_cons, imGet] at *
    have ih := imGet_setV x r
    simp only [setV] at ih
    by_cases h : p = x
    · subst h; simp
    · simp only [if_neg h, ih, List.mem_cons]
      simp [show ¬ x = p from fun e => h e.symm]
def insN (x : Int) (s : List Int) : List Int := if x ∈ s then s else s ++ [x]
theorem mem_insN {x y : Int} {s : List Int} : y ∈ insN x s ↔ y = x ∨ y ∈ s := by
  unfold insN
  split
  · constructor
    · exact .inr
    · rintro (rfl | h)
      · assumption
      · exact h
  · simp [or_comm]
theorem imSet_setV (x : Int) : ∀ s : List Int, imSet x (.bool true) (setV s) = setV (insN x s)
  | [] => rfl
  | p :: r => by
    have ih := imSet_setV x r
    simp only [setV, insN] at *
    by_cases h : p = x
    · subst h; simp [imSet]
    · simp only [List.map_cons, imSet, h, ↓reduceIte, ih]
      by_cases hx : x ∈ r
      · simp [hx]
      · simp [hx, show ¬ x = p from fun e => h e.symm]
theorem imap_of {w : World} {b : Nat} {l : List (Int × Value)} {o : Obj} (h1 : w.heap[b]? = some o) (h2 : hmap l o) : IMap w b l := by
  obtain ⟨es, c, rfl, hE⟩ := h2
  exact ⟨es, c, h1, hE⟩
theorem hmap_of {w : World} {b : Nat} {l : List (Int × Value)} (h : IMap w b l) : ∃ o, w.heap[b]? = some o ∧ hmap l o := by
  obtain ⟨es, c, h1, h2⟩ := h
  exact ⟨_, h1, es, c, rfl, h2⟩
section
variable {P : Program} {ro : Option Nat} {n N : Nat} {ds : List Deferred} {w0 : World} {X : Nat → Prop} {Q : Exit → Act → World → Prop} {ops : List Oper} {σ : Slots} {η : Hp} {rest : List Oper}
variable {d : Option Tmp} {ty : TypeId} {pos : String} {aft : Array Edge} {g : Option (Nat × Bool)}
theorem WOK.imap {w : World} (h : WOK w0 X η w) {b : Nat} {wr : Bool} {l : List (Int × Value)} (he : (b, wr, hmap l) ∈ η) : IMap w b l := by
  obtain ⟨o, h1, h2⟩ := h.bl _ he
  exact imap_of h1 h2

/-! ### a call: whatever it does -/
theorem xo_call {fo : Operand} {xs : List Operand} {ats : Array TypeId} {f : FuncId} {vs fs cs : List Value} (hg : gS ops σ g = some true) (hf : ev σ fo = some (.func (.func f) fs.toArray cs.toArray)) (ha_ : evs σ xs = some vs)
    (eg : ∀ args w, (callFunc f args).run P w = .ok (.enter f args) w) (hN : dstOK N d = true)
    (hc : ∀ w, WOK w0 X η w → Calls P f (fs ++ vs ++ cs).toArray w fun e w' => ∃ v η', e = .returned v ∧ WOK w0 X η' w' ∧ XO P ro n N ds w0 X Q ops (putS d v σ) η' rest) :
    XO P ro n N ds w0 X Q ops σ η (⟨d, .call { callee := .value fo, args := xs.toArray, argTypes := ats }, ty, pos, aft, g⟩ :: rest) := by
  intro a w ha hw
  unfold wpListIn
  rw [if_pos (wanted_of ha (o := ⟨d, .call { callee := .value fo, args := xs.toArray, argTypes := ats }, ty, pos, aft, g⟩) hg)]
  refine ⟨fun _ _ => trivial, ?_⟩
  rw [show (wideR ro).round = ro from rfl, Oper.semAt_eq ro _ _ (fun c e => by cases e)]
  have hrun : (execOp a.eval ⟨d, .call { callee := .value fo, args := xs.toArray, argTypes := ats }, ty, pos, aft, g⟩).run P w = .ok (.enter f (fs ++ vs ++ cs).toArray) w := by
    simp [execOp, resolve, Deferred.ofValue, invoke, ha.ev hf, ha.evs ha_, eg]
  rw [hrun]
  refine ⟨(fun h => by cases h), callsIn_wideR ((hc w hw).mono ?_)⟩
  rintro e w' ⟨v, η', rfl, hw', hk⟩
  exact hk _ _ (ha.put hN v) hw'
/-- a call that leaves the world as it was below its own blocks -/
theorem xo_callB {fo : Operand} {xs : List Operand} {ats : Array TypeId} {f : FuncId} {vs fs cs : List Value} {v : Value} (hg : gS ops σ g = some true) (hf : ev σ fo = some (.func (.func f) fs.toArray cs.toArray)) (ha_ : evs σ xs = some vs)
    (eg : ∀ args w, (callFunc f args).run P w = .ok (.enter f args) w) (hN : dstOK N d = true)
    (hc : ∀ w, WOK w0 X η w → Calls P f (fs ++ vs ++ cs).toArray w fun e w' => e = .returned v ∧ Below w.heap.size w w') (h : XO P ro n N ds w0 X Q ops (putS d v σ) η rest) :
    XO P ro n N ds w0 X Q ops σ η (⟨d, .call { callee := .value fo, args := xs.toArray, argTypes := ats }, ty, pos, aft, g⟩ :: rest) :=
  xo_call hg hf ha_ eg hN fun w hw => (hc w hw).mono fun e w' ⟨he, hb⟩ => ⟨v, η, he, hw.below hb, h⟩

/-! ### builtins -/
theorem xo_bi {b : Builtin} {xs : List Operand} {ats : Array TypeId} {vs : List Value} (v : Value) (hg : gS ops σ g = some true) (ha_ : evs σ xs = some vs) (hN : dstOK N d = true)
    (hrun : ∀ w, WOK w0 X η w → ∀ cs, (builtin b ats ty cs vs.toArray).run P w = .ok (.value v) w) (h : XO P ro n N ds w0 X Q ops (putS d v σ) η rest) :
    XO P ro n N ds w0 X Q ops σ η (⟨d, .call { callee := .builtin b, args := xs.toArray, argTypes := ats }, ty, pos, aft, g⟩ :: rest) :=
  xo_val v rfl hg hN (fun a w ha hw => by
    simp [execOp, resolve, invoke, ha.evs ha_]
    exact hrun w hw _) h
theorem xo_len (T : Tys P) {x : Operand} {t e : TypeId} {A : Option Addr} {len cap : Nat} (hg : gS ops σ g = some true) (hx : ev σ x = some (.slice A len cap)) (ht : look t T.el = some e) (hN : dstOK N d = true) (h : XO P ro n N ds w0 X Q ops (putS d (.int .i64 (len : Int)) σ) η rest) :
    XO P ro n N ds w0 X Q ops σ η (⟨d, .call { callee := .builtin .len, args := #[x], argTypes := #[t] }, ty, pos, aft, g⟩ :: rest) := by
  refine xo_bi (xs := [x]) (vs := [.slice A len cap]) _ hg (by simp [evs, hx]) hN (fun w hw cs => ?_) h
  have h1 := T.hel _ (look_mem ht)
  have := run_len_slice (P := P) w t ty A len cap (by simp only [Program.elem]; rw [show P.underlying t = _ from h1])
  simp [builtin, this, goInt]
/-! ### maps -/
theorem xo_mkm {t : TypeId} (hg : gS ops σ g = some true) (hN : dstOK N d = true) (h : ∀ b, XO P ro n N ds w0 X Q ops (putS d (.map (some b)) σ) ((b, true, hmap []) :: η) rest) :
    XO P ro n N ds w0 X Q ops σ η (⟨d, .makeMap t none, ty, pos, aft, g⟩ :: rest) :=
  xo_base rfl hg fun a w ha hw => by
    refine ⟨_, w.alloc (.map #[] 0), .map (some w.heap.size), ?_, .inl rfl, h _ _ _ (ha.put hN _) (hw.alloc _ _ ⟨#[], 0, rfl, ⟨rfl, by simp, by simp, by simp⟩⟩)⟩
    simp [execOp, Instr.makeMap]
theorem xo_mupd (T : Tys P) {t tk te : TypeId} {m x y : Operand} {b : Nat} {l : List (Int × Value)} {k : Int} {v : Value} {η' : Hp} (hg : gS ops σ g = some true) (ht : look t T.mp = some (tk, te)) (hk : look tk T.ik = some .i64) (hm : ev σ m = some (.map (some b))) (hx : ev σ x = some (.int .i64 k)) (hy : ev σ y = some v)
    (hb : (b, true, hmap l) ∈ η) (hU : Upd b (hmap (imSet k v l)) η η') (hN : dstOK N d = true) (h : XO P ro n N ds w0 X Q ops (putS d undef σ) η' rest) :
    XO P ro n N ds w0 X Q ops σ η (⟨d, .mapUpdate t m x y, ty, pos, aft, g⟩ :: rest) :=
  xo_base rfl hg fun a w ha hw => by
    obtain ⟨o, hr, hM⟩ := (hw.imap hb).store (P := P) (T.hmp _ (look_mem ht)) (T.hik _ (look_mem hk)) k v
    obtain ⟨o', h1, h2⟩ := hmap_of hM
    refine ⟨.skip, _, undef, ?_, .inr ⟨rfl, rfl⟩, h _ _ (ha.put hN _) (hw.upd hU (OneB.putObj w b o) h1 h2)⟩
    simp [execOp, ha.ev hm, ha.ev hx, ha.ev hy, hr]
/-- a set's new member -/
theorem xo_sins (T : Tys P) {t tk te : TypeId} {m x y : Operand} {b : Nat} {s : List Int} {k : Int} {η' : Hp} (hg : gS ops σ g = some true) (ht : look t T.mp = some (tk, te)) (hk : look tk T.ik = some .i64) (hm : ev σ m = some (.map (some b))) (hx : ev σ x = some (.int .i64 k)) (hy : ev σ y = some (.bool true))
    (hb : (b, true, hmap (setV s)) ∈ η) (hU : Upd b (hmap (setV (insN k s))) η η') (hN : dstOK N d = true) (h : XO P ro n N ds w0 X Q ops (putS d undef σ) η' rest) :
    XO P ro n N ds w0 X Q ops σ η (⟨d, .mapUpdate t m x y, ty, pos, aft, g⟩ :: rest) :=
  xo_mupd T hg ht hk hm hx hy hb (by rw [imSet_setV]; exact hU) hN h
theorem xo_look1 (T : Tys P) {t tk te : TypeId} {m x : Operand} {b : Nat} {wr : Bool} {l : List (Int × Value)} {k : Int} {z v : Value} (hg : gS ops σ g = some true) (ht : look t T.mp = some (tk, te)) (hk : look tk T.ik = some .i64) (hz : look te T.zs = some z) (hm : ev σ m = some (.map (some b))) (hx : ev σ x = some (.int .i64 k))
    (hb : (b, wr, hmap l) ∈ η) (hv : (imGet k l).getD z = v) (hN : dstOK N d = true) (h : XO P ro n N ds w0 X Q ops (putS d v σ) η rest) :
    XO P ro n N ds w0 X Q ops σ η (⟨d, .lookup t m x false, ty, pos, aft, g⟩ :: rest) :=
  xo_val v rfl hg hN (fun a w ha hw => by
    have := (hw.imap hb).look1 (P := P) (T.hmp _ (look_mem ht)) (T.hik _ (look_mem hk)) (T.hzs _ (look_mem hz) w) k
    rw [hv] at this
    simp [execOp, ha.ev hm, ha.ev hx, this]) h
/-- is it in the set? -/
theorem xo_sget (T : Tys P) {t tk te : TypeId} {m x : Operand} {b : Nat} {wr : Bool} {s : List Int} {k : Int} (hg : gS ops σ g = some true) (ht : look t T.mp = some (tk, te)) (hk : look tk T.ik = some .i64) (hz : look te T.zs = some (.bool false)) (hm : ev σ m = some (.map (some b))) (hx : ev σ x = some (.int .i64 k))
    (hb : (b, wr, hmap (setV s)) ∈ η) (hN : dstOK N d = true) (h : XO P ro n N ds w0 X Q ops (putS d (.bool (decide (k ∈ s))) σ) η rest) :
    XO P ro n N ds w0 X Q ops σ η (⟨d, .lookup t m x false, ty, pos, aft, g⟩ :: rest) :=
  xo_look1 T hg ht hk hz hm hx hb (by rw [imGet_setV]; split <;> simp [*]) hN h
/-! ### a slice of whole numbers, written out -/
theorem xo_bs1 (T : Tys P) {t e : TypeId} {x : Operand} {v z : Value} (hg : gS ops σ g = some true) (ht : look t T.el = some e) (hk : look e T.tk = some 0) (hz : look e T.zs = some z) (hzc : z.cells.toList.length = 1) (hx : ev σ x = some v) (hv : v.cells = #[v]) (hN : dstOK N d = true)
    (h : ∀ b, XO P ro n N ds w0 X Q ops (putS d (.slice (some ⟨b, 0, none⟩) 1 1) σ) ((b, true, cel [v] e) :: η) rest) : XO P ro n N ds w0 X Q ops σ η (⟨d, .buildSlice t 1 #[(0, x)], ty, pos, aft, g⟩ :: rest) :=
  xo_base rfl hg fun a w ha hw => by
    have h1 := T.hel _ (look_mem ht)
    have h2 : (sizeOf e).run P w = .ok 1 w := (T.htk _ (look_mem hk)).2 w
    have h3 := T.hzs _ (look_mem hz) w
    refine ⟨_, w.alloc (.cells #[v] e), .slice (some ⟨w.heap.size, 0, none⟩) 1 1, ?_, .inl rfl, h _ _ _ (ha.put hN _) (hw.alloc _ _ rfl)⟩
    have hz1 : z.cells.size = 1 := by simpa using hzc
    simp only at h1 h2 h3
    simp [execOp, Instr.buildSlice, run_underlying h1, h2, h3, ha.ev hx, Instr.fill, hv, hz1, newRow, Array.range_succ, Array.range_zero']
theorem xo_bs2 (T : Tys P) {t e : TypeId} {x y : Operand} {v u z : Value} (hg : gS ops σ g = some true) (ht : look t T.el = some e) (hk : look e T.tk = some 0) (hz : look e T.zs = some z) (hzc : z.cells.toList.length = 1) (hx : ev σ x = some v) (hy : ev σ y = some u) (hv : v.cells = #[v]) (hu : u.cells = #[u]) (hN : dstOK N d = true)
    (h : ∀ b, XO P ro n N ds w0 X Q ops (putS d (.slice (some ⟨b, 0, none⟩) 2 2) σ) ((b, true, cel [v, u] e) :: η) rest) : XO P ro n N ds w0 X Q ops σ η (⟨d, .buildSlice t 2 #[(0, x), (1, y)], ty, pos, aft, g⟩ :: rest) :=
  xo_base rfl hg fun a w ha hw => by
    have h1 := T.hel _ (look_mem ht)
    have h2 : (sizeOf e).run P w = .ok 1 w := (T.htk _ (look_mem hk)).2 w
    have h3 := T.hzs _ (look_mem hz) w
    refine ⟨_, w.alloc (.cells #[v, u] e), .slice (some ⟨w.heap.size, 0, none⟩) 2 2, ?_, .inl rfl, h _ _ _ (ha.put hN _) (hw.alloc _ _ rfl)⟩
    have hz1 : z.cells.size = 1 := by simpa using hzc
    simp only at h1 h2 h3
    simp [execOp, Instr.buildSlice, run_underlying h1, h2, h3, ha.ev hx, ha.ev hy, Instr.fill, hv, hu, hz1, newRow, Array.range_succ, Array.range_zero']
end
/-! ### a function as a whole -/
def argS : Nat → List Value → Slots
  | _, [] => []
  | i, v :: r => (i, v) :: argS (i + 1) r
theorem slot_argS : ∀ (vs : List Value) (i j : Nat) (v : Value), slot j (argS i vs) = some v → i ≤ j ∧ vs[j - i]? = some v
  | [], i, j, v, h => by cases h
  | u :: r, i, j, v, h => by
    unfold argS slot at h
    cases hq : Nat.beq i j with
    | true =>
      have e := Nat.eq_of_beq_eq_true hq
      simp only [hq, cond_true, Option.some.injEq] at h
      subst e
      subst h
      simp
    | false =>
      simp only [hq, cond_false] at h
      obtain ⟨h1, h2⟩ := slot_argS r (i + 1) j v h
      have h3 : i ≤ j := by omega
      refine ⟨h3, ?_⟩
      rw [show j - i = (j - (i + 1)) + 1 from by omega]
      simpa using h2
theorem SOK.args (vs : List Value) (N : Nat) (h : vs.length ≤ N) : SOK N [] (argS 0 vs) { tmps := vs.toArray ++ Array.replicate (N - vs.toArray.size) undef, defers := [] } := by
  refine ⟨by simp; omega, fun i v hv => ?_, rfl⟩
  obtain ⟨_, h2⟩ := slot_argS vs 0 i v hv
  simp only [Nat.sub_zero] at h2
  have hlt : i < vs.length := (List.getElem?_eq_some_iff.1 h2).1
  rw [Array.getElem?_append_left (by simpa using hlt)]
  simpa using h2
theorem x_calls {P : Program} {f : FuncId} {fn : Func} {c : Code} {vs : List Value} {w : World} {R : Ending → World → Prop} {X : Nat → Prop} (hf : P.funcs[f]? = some fn) (hb : fn.body = some c) {N : Nat} (hn : fn.ntmps = N) (hl : Nat.ble vs.length N = true)
    (h : XC P none 0 N [] w X (bodyPost P fn R) (argS 0 vs) [] c) : Calls P f vs.toArray w R := by
  subst hn
  exact (callsIn_wide (n := 0)).1 (callsIn_of_wp hf hb trivial (h _ w (SOK.args vs _ (Nat.le_of_ble_eq_true hl)) (WOK.start X w)) rfl)
theorem x_callsH {P : Program} {f : FuncId} {fn : Func} {c : Code} {vs : List Value} {w : World} {R : Ending → World → Prop} {X : Nat → Prop} {η : Hp} (hf : P.funcs[f]? = some fn) (hb : fn.body = some c) {N : Nat} (hn : fn.ntmps = N) (hl : Nat.ble vs.length N = true) (hw : WOK w X η w)
    (h : XC P none 0 N [] w X (bodyPost P fn R) (argS 0 vs) η c) : Calls P f vs.toArray w R := by
  subst hn
  exact (callsIn_wide (n := 0)).1 (callsIn_of_wp hf hb trivial (h _ w (SOK.args vs _ (Nat.le_of_ble_eq_true hl)) hw) rfl)
section
variable {P : Program} {N : Nat} {w0 : World} {X : Nat → Prop} {fn : Func} {R : Ending → World → Prop} {σ : Slots} {η : Hp}
theorem xq_ret1 {t : Tmp} {v : Value} (hf : fn.results = #[.tmp t]) (hv : slot t σ = some v) (h : ∀ w, WOK w0 X η w → R (.returned v) w) : XQ N [] w0 X (bodyPost P fn R) .ret σ η :=
  fun a w ha hw => ⟨ha.df, v, by rw [results_tmp hf, getD_of (ha.sl _ _ hv)], h w hw⟩
theorem xq_ret2 {t u : Tmp} {v x : Value} (hf : fn.results = #[.tmp t, .tmp u]) (hv : slot t σ = some v) (hx : slot u σ = some x) (h : ∀ w, WOK w0 X η w → R (.returned (.tuple #[v, x])) w) : XQ N [] w0 X (bodyPost P fn R) .ret σ η :=
  fun a w ha hw => ⟨ha.df, _, by rw [results_tmp2 hf, getD_of (ha.sl _ _ hv), getD_of (ha.sl _ _ hx)], h w hw⟩
theorem xq_ret0 (hf : fn.results = #[]) (h : ∀ w, WOK w0 X η w → R (.returned (.tuple #[])) w) : XQ N [] w0 X (bodyPost P fn R) .ret σ η :=
  fun a w ha hw => ⟨ha.df, _, by rw [results_none hf], h w hw⟩
theorem xq_end0 (hf : fn.results = #[]) (h : ∀ w, WOK w0 X η w → R (.returned (.tuple #[])) w) : XQ N [] w0 X (bodyPost P fn R) .normal σ η :=
  fun a w ha hw => ⟨ha.df, _, by rw [results_none hf], h w hw⟩
theorem run_loadVar_cel (T : Tys P) {w : World} (hw : WOK w0 X η w) {t : TypeId} {b i k : Nat} {wr : Bool} {cs vs : List Value} {te : TypeId} (ht : look t T.tk = some (k + 1)) (hm : (b, wr, cel cs te) ∈ η) (hv : seg i (k + 1) cs = some vs) :
    (loadVar t ⟨b, i, none⟩).run P w = .ok (.agg vs.toArray) w := by
  obtain ⟨h1, h3_⟩ := T.htk _ (look_mem ht)
  have h3 : ∀ w, (sizeOf t).run P w = .ok (k + 1) w := h3_
  have h1 : ∀ w, (isAgg t).run P w = .ok true w := fun w => (h1 w).trans (by simp [Nat.blt])
  have hs := seg_get _ _ _ _ hv
  have h2 := run_loadCells_list (P := P) (w := w) ⟨b, i, none⟩ vs (fun j v hj => by rw [Addr.add_lit]; exact hw.cell hm (i + j) (hs.2 j v hj))
  rw [hs.1] at h2
  simp [loadVar, h1, h3, h2]
/-- a struct that lies in a block, and one slot -/
theorem xq_retC1 (T : Tys P) {t u : Tmp} {ts : TypeId} {b i k : Nat} {wr : Bool} {cs vs : List Value} {te : TypeId} {x : Value} (hf : fn.results = #[.cell t ts, .tmp u]) (hv : slot t σ = some (.pointer (some ⟨b, i, none⟩))) (hx : slot u σ = some x)
    (ht : look ts T.tk = some (k + 1)) (hm : (b, wr, cel cs te) ∈ η) (hs : seg i (k + 1) cs = some vs) (h : ∀ w, WOK w0 X η w → R (.returned (.tuple #[.agg vs.toArray, x])) w) : XQ N [] w0 X (bodyPost P fn R) .ret σ η :=
  fun a w ha hw => ⟨ha.df, .tuple #[.agg vs.toArray, x], by
    rw [results_cell_tmp hf]
    have := run_loadVar_cel T hw ht hm hs
    rw [getD_of (ha.sl _ _ hv), getD_of (ha.sl _ _ hx)]
    simp [asAddr, this], h w hw⟩
theorem xq_retC (T : Tys P) {t : Tmp} {ts : TypeId} {b i k : Nat} {wr : Bool} {cs vs : List Value} {te : TypeId} (hf : fn.results = #[.cell t ts]) (hv : slot t σ = some (.pointer (some ⟨b, i, none⟩)))
    (ht : look ts T.tk = some (k + 1)) (hm : (b, wr, cel cs te) ∈ η) (hs : seg i (k + 1) cs = some vs) (h : ∀ w, WOK w0 X η w → R (.returned (.agg vs.toArray)) w) : XQ N [] w0 X (bodyPost P fn R) .ret σ η :=
  fun a w ha hw => ⟨ha.df, .agg vs.toArray, by
    have := run_loadVar_cel T hw ht hm hs
    simp [results, hf, ha.sl _ _ hv, asAddr, this], h w hw⟩
end
end Go.Proofs.Ytcmepdamemnbkaa
namespace Go.Proofs.Ytcmepdamemnbkaa
section
variable {P : Program} {ro : Option Nat} {n N : Nat} {ds : List Deferred} {w0 : World} {X : Nat → Prop} {Q : Exit → Act → World → Prop} {ops : List Oper} {σ : Slots} {η : Hp} {rest : List Oper}
variable {d : Option Tmp} {ty : TypeId} {pos : String} {aft : Array Edge} {g : Option (Nat × Bool)}
theorem xo_min {x y : Operand} {ats : Array TypeId} {a b : Int} (hg : gS ops σ g = some true) (hx : ev σ x = some (.int .i64 a)) (hy : ev σ y = some (.int .i64 b)) (hN : dstOK N d = true) (h : XO P ro n N ds w0 X Q ops (putS d (.int .i64 (if b < a then b else a)) σ) η rest) :
    XO P ro n N ds w0 X Q ops σ η (⟨d, .call { callee := .builtin .min, args := #[x, y], argTypes := ats }, ty, pos, aft, g⟩ :: rest) := by
  refine xo_bi (xs := [x, y]) (vs := [.int .i64 a, .int .i64 b]) _ hg (by simp [evs, hx, hy]) hN (fun w hw cs => ?_) h
  have : (Builtin.min_ ats ty #[.int .i64 a, .int .i64 b]).run P w = .ok (.int .i64 (if b < a then b else a)) w := by go_simp
  simp [builtin, this]
theorem xo_max {x y : Operand} {ats : Array TypeId} {a b : Int} (hg : gS ops σ g = some true) (hx : ev σ x = some (.int .i64 a)) (hy : ev σ y = some (.int .i64 b)) (hN : dstOK N d = true) (h : XO P ro n N ds w0 X Q ops (putS d (.int .i64 (if a < b then b else a)) σ) η rest) :
    XO P ro n N ds w0 X Q ops σ η (⟨d, .call { callee := .builtin .max, args := #[x, y], argTypes := ats }, ty, pos, aft, g⟩ :: rest) := by
  refine xo_bi (xs := [x, y]) (vs := [.int .i64 a, .int .i64 b]) _ hg (by simp [evs, hx, hy]) hN (fun w hw cs => ?_) h
  have : (Builtin.max_ ats ty #[.int .i64 a, .int .i64 b]).run P w = .ok (.int .i64 (if a < b then b else a)) w := by go_simp
  simp [builtin, this]
end
end Go.Proofs.Ytcmepdamemnbkaa
namespace Go.Proofs.Ytcmepdamemnbkaa
open Go.RowKit Go.MapKept
attribute [local go_sem] Oper.semAt_some
set_option linter.unusedVariables false
set_option linter.unusedSimpArgs false

/-- a row that has been appended to: n elements of sz cells -/
def orow (e : TypeId) (sz n cap : Nat) (xs : List Value) : HP := fun o => ∃ cur : Array Value, o = .cells cur e (0, 0) ∧ n ≤ cap ∧ cap ≤ maxLen ∧ cur.size = cap * sz ∧ cur.toList.take (n * sz) = xs
abbrev RowR := Option (Nat × Nat)
def valR (r : RowR) (n : Nat) : Value := match r with
  | none => .slice none 0 0
  | some p => .slice (some ⟨p.1, 0, none⟩) n p.2
def hpR (e : TypeId) (sz : Nat) (r : RowR) (n : Nat) (xs : List Value) : Hp := match r with
  | none => []
  | some p => [(p.1, true, orow e sz n p.2 xs)]
theorem Upd.app {b : Nat} {φ' : HP} {r r' : Hp} (h : Upd b φ' r r') : ∀ l : Hp, Upd b φ' (l ++ r) (l ++ r')
  | [] => h
  | e :: l => .tail (h.app l)
/-- what append asks of an element type -/
structure TysR (P : Program) extends Tys P where
  inf : List (Nat × Value × Nat × Nat)
  hinf : ∀ p ∈ inf, (P.info? p.1).map (fun i => (i.zero, i.size, i.bytes)) = some (some p.2.1, p.2.2.1, p.2.2.2)
/-- what a struct that is built asks -/
structure TysB (P : Program) extends TysR P where
  bl : List (Nat × List (Nat × Nat) × Array Value)
  hbl : ∀ p ∈ bl, ∀ (parts : Array (Nat × Value)) (cs : Array Value) (w : World), Instr.fill (fun i => p.2.1[i]?) p.2.2 parts.toList = some cs → (Instr.build p.1 parts).run P w = .ok (.agg cs) w
def evp (σ : Slots) : List (Nat × Operand) → Option (List (Nat × Value))
  | [] => some []
  | p :: r => match ev σ p.2, evp σ r with
    | some v, some vs => some ((p.1, v) :: vs)
    | _, _ => none
theorem SOK.evp {N : Nat} {ds : List Deferred} {σ : Slots} {a : Act} (h : SOK N ds σ a) : ∀ {xs : List (Nat × Operand)} {vs : List (Nat × Value)}, evp σ xs = some vs → xs.map (fun p => (p.1, a.eval p.2)) = vs
  | [], vs, e => by cases e; rfl
  | x :: r, vs, e => by
    unfold Go.Proofs.Ytcmepdamemnbkaa.evp at e
    split at e
    · rename_i v ws h1 h2
      cases e
      rw [List.map_cons, h.ev h1, h.evp h2]
    · cases e
/-- what a struct holds, built out of parts -/
def fillL : List (Nat × Nat) → List Value → List (Nat × Value) → Option (List Value)
  | _, cs, [] => some cs
  | pl, cs, p :: r => match nth p.1 pl with
    | some q => match Nat.beq p.2.cells.toList.length q.2, setSeg q.1 p.2.cells.toList cs with
      | true, some cs' => fillL pl cs' r
      | _, _ => none
    | none => none
theorem foldl_set : ∀ (vs : List Value) (o j : Nat) (cs cs' : List Value), setSeg (o + j) vs cs = some cs' → o + j + vs.length ≤ cs.length ∧ (vs.zipIdx j).foldl (fun (a : Array Value) (p : Value × Nat) => a.setIfInBounds (o + p.2) p.1) cs.toArray = cs'.toArray := by
  have put1 : ∀ (k : Nat) (v : Value) (vs cs cs' : List Value), setSeg k (v :: vs) cs = some cs' → k < cs.length ∧ setSeg (k + 1) vs (cs.set k v) = some cs' := by
    intro k
    induction k with
    | zero =>
      intro v vs cs cs' h
      cases cs with
      | nil => simp [setSeg] at h
      | cons x r =>
        simp only [setSeg] at h
        split at h
        · rename_i r' hr
          cases h
          refine ⟨by simp, ?_⟩
          simp only [List.set_cons_zero, setSeg, Nat.zero_add, hr]
        · cases h
    | succ k ih =>
      intro v vs cs cs' h
      cases cs with
      | nil => simp [setSeg] at h
      | cons x r =>
        simp only [setSeg] at h
        split at h
        · rename_i r' hr
          cases h
          have := ih v vs r r' hr
          refine ⟨by simp; exact this.1, ?_⟩
          simp only [List.set_cons_succ, setSeg, this.2]
        · cases h
  have done : ∀ (k : Nat) (cs cs' : List Value), setSeg k [] cs = some cs' → cs' = cs ∧ k ≤ cs.length := by
    intro k
    induction k with
    | zero => intro cs cs' h; simp [setSeg] at h; exact ⟨h.symm, Nat.zero_le _⟩
    | succ k ih =>
      intro cs cs' h
      cases cs with
      | nil => simp [setSeg] at h
      | cons x r =>
        simp only [setSeg] at h
        split at h
        · rename_i r' hr
          cases h
          have := ih r r' hr
          exact ⟨by rw [this.1], by simp; exact this.2⟩
        · cases h
  intro vs
  induction vs with
  | nil =>
    intro o j cs cs' h
    have := done _ _ _ h
    exact ⟨by simpa using this.2, by simp [this.1]⟩
  | cons v vs ih =>
    intro o j cs cs' h
    obtain ⟨h1, h2⟩ := put1 _ _ _ _ _ h
    have h3 := ih o (j + 1) (cs.set (o + j) v) cs' (by rw [show o + (j + 1) = o + j + 1 from rfl]; exact h2)
    simp only [List.length_set] at h3
    refine ⟨by simp only [List.length_cons]; omega, ?_⟩
    simp only [List.zipIdx_cons, List.foldl_cons]
    rw [← h3.2]
    congr 1
    simp
theorem fillL_eq (pl : List (Nat × Nat)) : ∀ (ps : List (Nat × Value)) (cs cs' : List Value), fillL pl cs ps = some cs' → Instr.fill (fun i => pl[i]?) cs.toArray ps = some cs'.toArray
  | [], cs, cs', h => by simp [fillL] at h; simp [Instr.fill, h]
  | p :: r, cs, cs', h => by
    unfold fillL at h
    split at h
    · rename_i q hq
      split at h
      · rename_i c2 h1 h2
        have ih := fillL_eq pl r c2 cs' h
        rw [nth_eq] at hq
        have h3 := Nat.eq_of_beq_eq_true h1
        obtain ⟨h4, h5⟩ := foldl_set p.2.cells.toList q.1 0 cs c2 (by simpa using h2)
        obtain ⟨qo, qs⟩ := q
        simp only at h3 h4 h5
        simp only [Instr.fill, hq]
        have h6 : p.2.cells.size = qs := by rw [← h3]; simp
        rw [if_neg (by simp only [h6, ne_eq, not_true_eq_false, decide_false, Bool.false_or, decide_eq_true_eq, gt_iff_lt, List.size_toArray, Nat.not_lt]; simp at h4; omega)]
        have h7 : p.2.cells.zipIdx.foldl (fun (cs : Array Value) (x : Value × Nat) => cs.setIfInBounds (qo + x.2) x.1) cs.toArray = c2.toArray := by
          rw [← h5, ← Array.foldl_toList]
          congr 1
          simp
        rw [← ih, ← h7]
      · cases h
    · cases h
section
variable {P : Program} {ro : Option Nat} {n N : Nat} {ds : List Deferred} {w0 : World} {X : Nat → Prop} {Q : Exit → Act → World → Prop} {ops : List Oper} {σ : Slots} {η : Hp} {rest : List Oper}
variable {d : Option Tmp} {ty : TypeId} {pos : String} {aft : Array Edge} {g : Option (Nat × Bool)}
theorem WOK.owns {w : World} {e : TypeId} {sz m : Nat} {r : RowR} {xs : List Value} {η0 : Hp} (h : WOK w0 X (hpR e sz r m xs ++ η0) w) (hx : xs.length = m * sz) (h0 : r = none → m = 0) : w.ownsRow 0 e sz (valR r m) m xs := by
  refine ⟨hx, ?_⟩
  cases r with
  | none => exact .inl ⟨rfl, h0 rfl⟩
  | some p =>
    obtain ⟨o, h1, cur, rfl, h2, h3, h4, h5⟩ := h.bl (p.1, true, orow e sz m p.2 xs) (List.mem_append_left _ (List.mem_cons_self ..))
    exact .inr ⟨p.1, p.2, cur, rfl, Nat.zero_le _, h1, h2, h3, h4, h5⟩
/-- append of one element that lies in a block of its own; the row stands first but for that block -/
theorem xo_app (T : TysR P) {t e : TypeId} {s x : Operand} {z : Value} {sz by_ m : Nat} {r : RowR} {xs news : List Value} {b : Nat} {wr : Bool} {η0 : Hp} (hg : gS ops σ g = some true) (ht : look t T.el = some e) (hi : look e T.inf = some (z, sz, by_)) (hzs : z.cells.toList.length = sz) (hsz : Nat.blt 0 sz = true)
    (hs : ev σ s = some (valR r m)) (hx : ev σ x = some (.slice (some ⟨b, 0, none⟩) 1 1)) (hη : η = (b, wr, cel news e) :: (hpR e sz r m xs ++ η0)) (hl : xs.length = m * sz) (hn : news.length = sz) (h1 : news.all (·.oneCell') = true) (h0 : r = none → m = 0)
    (hb : (m + 1) * by_ ≤ 140737488355328) (hb0 : Nat.blt 0 by_ = true) (hN : dstOK N d = true)
    (h : ∀ r' : RowR, r' ≠ none → XO P ro n N ds w0 X Q ops (putS d (valR r' (m + 1)) σ) (hpR e sz r' (m + 1) (xs ++ news) ++ η0) rest) :
    XO P ro n N ds w0 X Q ops σ η (⟨d, .call { callee := .builtin .append, args := #[s, x], argTypes := #[t, t] }, ty, pos, aft, g⟩ :: rest) := by
  subst hη
  refine xo_base rfl hg fun a w ha hw => ?_
  have hT := T.hel _ (look_mem ht)
  obtain ⟨i, hi1, hi2⟩ := Option.map_eq_some_iff.1 (T.hinf _ (look_mem hi))
  simp only [Prod.mk.injEq] at hi2
  obtain ⟨iz, isz, iby⟩ := hi2
  have hw' := hw.sub (List.sublist_cons_self _ _)
  have hown := hw'.owns hl h0
  have hb1 : 0 < by_ := by simpa [Nat.blt_eq] using hb0
  have hlen : m + 1 ≤ 140737488355328 := Nat.le_trans (Nat.le_mul_of_pos_right _ hb1) hb
  obtain ⟨v', w', hr, own', hgr, hnil, hat⟩ := run_append_own_at (P := P) w 0 t ty e i z sz by_ hT hi1 iz isz iby (by simpa using hzs) (by simpa [Nat.blt_eq] using hsz) (valR r m) m xs hown ⟨b, 0, none⟩ 1 1 news (by omega)
    (fun j u hj => by rw [Addr.add_lit, Nat.zero_add]; exact hw.cell (List.mem_cons_self ..) j hj) (by simpa using h1) (by simp only [maxLen]; omega) hb (Nat.zero_le _)
  obtain ⟨h2, h3⟩ := own'
  rcases h3 with ⟨_, h3⟩ | ⟨g', cap', cur, rfl, _, h4, h5, h6, h7, h8⟩
  · exact absurd h3 (by omega)
  refine ⟨.value (.slice (some ⟨g', 0, none⟩) (m + 1) cap'), w', _, ?_, .inl rfl, h (some (g', cap')) (by simp) _ _ (ha.put hN _) ?_⟩
  · simp only [execOp, resolve, invoke, builtin, Sem.run_bind, Sem.run_pure, Result.andThen_ok, List.map_toArray, List.map_cons, List.map_nil, ha.ev hs, ha.ev hx, hr]
  · have hη0 := hw'.sub (List.sublist_append_right (hpR e sz r m xs) η0)
    have hold : ∀ k, k < w.heap.size → (∀ p, r = some p → k ≠ p.1) → w'.heap[k]? = w.heap[k]? := fun k hk hne => hgr.block k hk (fun e' => by
      cases r with
      | none => simp [valR, Value.ownBlock] at e'
      | some p => simp [valR, Value.ownBlock] at e'; exact hne p rfl e')
    have hne0 : ∀ e' ∈ η0, ∀ p, r = some p → e'.1 ≠ p.1 := fun e' he p hp q => by
      subst hp
      have hnd := hw'.nd
      simp only [hpR, List.cons_append, List.nil_append, List.map_cons, List.nodup_cons] at hnd
      exact hnd.1 (List.mem_map.2 ⟨e', he, q⟩)
    have hrow : ∀ p, r = some p → w0.heap.size ≤ p.1 ∨ X p.1 := fun p hp => by
      subst hp
      exact hw'.ow (p.1, true, orow e sz m p.2 xs) (List.mem_append_left _ (List.mem_cons_self ..)) rfl
    have hg' : (∃ p, r = some p ∧ g' = p.1) ∨ g' = w.heap.size := by
      rcases hat with hat | hat
      · left
        cases r with
        | none => simp [valR, Value.ownBlock] at hat
        | some p => simp [valR, Value.ownBlock] at hat; exact ⟨p, rfl, hat⟩
      · right
        simpa [Value.ownBlock] using hat
    refine ⟨⟨hgr.os.trans hη0.kx.os, hgr.tape.trans hη0.kx.tape, hgr.output.trans hη0.kx.output, Nat.le_trans hη0.kx.size hgr.size, fun k hk hx => ?_⟩, ?_, ?_, ?_⟩
    · refine (hold k (Nat.lt_of_lt_of_le hk hη0.kx.size) (fun p hp q => ?_)).trans (hη0.kx.block k hk hx)
      subst q
      rcases hrow p hp with h9 | h9
      · exact absurd hk (Nat.not_lt.2 h9)
      · exact hx h9
    · intro e' he
      rcases List.mem_append.1 he with he | he
      · simp only [hpR, List.mem_singleton] at he
        subst he
        exact ⟨_, h4, cur, rfl, h5, h6, h7, h8⟩
      · obtain ⟨o, h9, h10⟩ := hη0.bl e' he
        exact ⟨o, (hold _ (hη0.lt he) (hne0 e' he)).trans h9, h10⟩
    · simp only [hpR, List.cons_append, List.nil_append, List.map_cons, List.nodup_cons]
      refine ⟨fun hm => ?_, hη0.nd⟩
      obtain ⟨e', he, q⟩ := List.mem_map.1 hm
      rcases hg' with ⟨p, hp, hg'⟩ | hg'
      · exact hne0 e' he p hp (q.trans hg')
      · have := hη0.lt he
        omega
    · intro e' he hwr
      rcases List.mem_append.1 he with he | he
      · simp only [hpR, List.mem_singleton] at he
        subst he
        rcases hg' with ⟨p, hp, hg'⟩ | hg'
        · rw [show g' = p.1 from hg']; exact hrow p hp
        · exact .inl (by rw [show g' = _ from hg']; exact hη0.kx.size)
      · exact hη0.ow e' he hwr
theorem xo_build (T : TysB P) {t : TypeId} {parts : List (Nat × Operand)} {pl : List (Nat × Nat)} {z : Array Value} {ps : List (Nat × Value)} {cs : List Value} (hg : gS ops σ g = some true) (ht : look t T.bl = some (pl, z)) (hp : evp σ parts = some ps) (hc : fillL pl z.toList ps = some cs) (hN : dstOK N d = true)
    (h : XO P ro n N ds w0 X Q ops (putS d (.agg cs.toArray) σ) η rest) : XO P ro n N ds w0 X Q ops σ η (⟨d, .build t parts.toArray, ty, pos, aft, g⟩ :: rest) :=
  xo_val _ rfl hg hN (fun a w ha hw => by
    have h1 := fillL_eq pl ps z.toList cs hc
    simp only [Array.toArray_toList] at h1
    have h2 := T.hbl _ (look_mem ht) ps.toArray cs.toArray w (by simpa using h1)
    have h3 := ha.evp hp
    simp only [execOp, List.map_toArray, Sem.run_bind]
    rw [show (parts.map fun (i, x) => (i, a.eval x)) = ps from h3, h2]
    rfl) h
/-- make of a row of one-cell elements -/
theorem xo_mks (T : TysR P) {t e : TypeId} {x y : Operand} {z : Value} {by_ m : Nat} (hg : gS ops σ g = some true) (ht : look t T.el = some e) (hi : look e T.inf = some (z, 1, by_)) (hzc : z.cells = #[z]) (hx : ev σ x = some (.int .i64 (m : Int))) (hy : ev σ y = some (.int .i64 (m : Int))) (hb : by_ * m ≤ 281474976710656) (hm : m ≤ 9223372036854775807) (hN : dstOK N d = true)
    (h : ∀ b, XO P ro n N ds w0 X Q ops (putS d (.slice (some ⟨b, 0, none⟩) m m) σ) ((b, true, cel (List.replicate m z) e) :: η) rest) : XO P ro n N ds w0 X Q ops σ η (⟨d, .makeSlice t x y, ty, pos, aft, g⟩ :: rest) :=
  xo_base rfl hg fun a w ha hw => by
    have hr := run_make_row' (P := P) t e z by_ (T.hel _ (look_mem ht)) (T.hinf _ (look_mem hi)) hzc .i64 .i64 m hb hm w
    refine ⟨_, w.alloc (.cells (madeCells #[z] m) e), .slice (some ⟨w.heap.size, 0, none⟩) m m, ?_, .inl rfl, h _ _ _ (ha.put hN _) (hw.alloc _ _ ?_)⟩
    · simp only [execOp, ha.ev hx, ha.ev hy, Sem.run_bind, hr, Result.andThen_ok]
      rfl
    · show Obj.cells _ _ _ = _
      congr 1
      apply Array.ext'
      apply List.ext_getElem
      · simp [madeCells]
      · intro i h1 h2
        simp [madeCells, Nat.mod_one]
/-- an element at a computed place of a block of the call's own -/
theorem xo_loadI (T : Tys P) {t : TypeId} {x : Operand} {b o k : Nat} {wr : Bool} {cs : List Value} {te : TypeId} {v : Value} (hg : gS ops σ g = some true) (ht : look t T.tk = some 0) (hx : ev σ x = some (.pointer (some (Addr.add ⟨b, o, none⟩ k)))) (hm : (b, wr, cel cs te) ∈ η) (hv : cs[o + k]? = some v) (hN : dstOK N d = true)
    (h : XO P ro n N ds w0 X Q ops (putS d v σ) η rest) : XO P ro n N ds w0 X Q ops σ η (⟨d, .load t x, ty, pos, aft, g⟩ :: rest) :=
  xo_val v rfl hg hN (fun a w ha hw => by
    have h1 := (T.htk _ (look_mem ht)).1 w
    have h2 := hw.cell hm (o + k) hv
    have h3 := ha.ev hx
    rw [Addr.add_lit] at h3
    simp [execOp, h3, Instr.loadAt, Instr.sureAddr, loadVar, h1, h2]) h
theorem xo_storeI (T : Tys P) {t : TypeId} {p x : Operand} {b o k : Nat} {cs : List Value} {te : TypeId} {v : Value} {η' : Hp} (hg : gS ops σ g = some true) (ht : look t T.tk = some 0) (hp : ev σ p = some (.pointer (some (Addr.add ⟨b, o, none⟩ k)))) (hx : ev σ x = some v)
    (hm : (b, true, cel cs te) ∈ η) (hv : v.cells = #[v]) (h1 : v.oneCell' = true) (hlt : o + k < cs.length) (hU : Upd b (cel (cs.set (o + k) v) te) η η') (hN : dstOK N d = true)
    (h : XO P ro n N ds w0 X Q ops (putS d undef σ) η' rest) : XO P ro n N ds w0 X Q ops σ η (⟨d, .store t p x, ty, pos, aft, g⟩ :: rest) :=
  xo_base rfl hg fun a w ha hw => by
    have h2 : (sizeOf t).run P w = .ok 1 w := (T.htk _ (look_mem ht)).2 w
    have hb := hw.obj hm
    have hcell : w.cell? ⟨b, o + k, none⟩ = some (cs[o + k]'hlt) := by
      rw [cell_of_row w b (o + k) _ te _ hb]
      simp [List.getElem?_eq_getElem hlt]
    have hfz : w.frozen? ⟨b, o + k, none⟩ = false := frozen_of_row w b (o + k) _ te hb
    have hst : (store ⟨b, o + k, none⟩ v .plain).run P w = .ok () (w.setCell ⟨b, o + k, none⟩ v) := by
      rw [run_store P w _ v _ h1, hcell]
      simp [hfz]
    have hb' : (w.setCell ⟨b, o + k, none⟩ v).heap[b]? = some (.cells (cs.set (o + k) v).toArray te (0, 0)) := by
      rw [heap_setCell_same w b (o + k) _ te v hb]
      simp
    have h3 := ha.ev hp
    rw [Addr.add_lit] at h3
    refine ⟨.skip, _, undef, ?_, .inr ⟨rfl, rfl⟩, h _ _ (ha.put hN _) (hw.upd hU (OneB.setCell w b (o + k) v) hb' rfl)⟩
    simp only [execOp, h3, ha.ev hx, Instr.storeAt, Instr.sureAddr, storeVar, Sem.run_bind, Sem.run_pure, Result.andThen_ok, h2, hv, List.size_toArray, List.length_cons, List.length_nil, ne_eq, not_true_eq_false, ↓reduceIte, storeCells, Addr.add_zero', hst]
/-- an element of a row that has been appended to -/
theorem xo_loadO (T : Tys P) {t : TypeId} {x : Operand} {b m cap k : Nat} {wr : Bool} {xs : List Value} {te : TypeId} {v : Value} (hg : gS ops σ g = some true) (ht : look t T.tk = some 0) (hx : ev σ x = some (.pointer (some (Addr.add ⟨b, 0, none⟩ k)))) (hm : (b, wr, orow te 1 m cap xs) ∈ η) (hv : xs[k]? = some v) (hN : dstOK N d = true)
    (h : XO P ro n N ds w0 X Q ops (putS d v σ) η rest) : XO P ro n N ds w0 X Q ops σ η (⟨d, .load t x, ty, pos, aft, g⟩ :: rest) :=
  xo_val v rfl hg hN (fun a w ha hw => by
    have h1 := (T.htk _ (look_mem ht)).1 w
    obtain ⟨o, h4, cur, rfl, h5, h6, h7, h8⟩ := hw.bl _ hm
    have h2 : w.cell? ⟨b, k, none⟩ = some v := by
      rw [cell_of_row w b k _ te _ h4, ← Array.getElem?_toList]
      rw [← h8] at hv
      rw [List.getElem?_take] at hv
      split at hv
      · exact hv
      · cases hv
    have h3 := ha.ev hx
    rw [Addr.add_lit, Nat.zero_add] at h3
    simp [execOp, h3, Instr.loadAt, Instr.sureAddr, loadVar, h1, h2]) h
end
end Go.Proofs.Ytcmepdamemnbkaa
namespace Go.Proofs.Ytcmepdamemnbkaa
open Go.RowKit
set_option linter.unusedVariables false
set_option linter.unusedSimpArgs false
section
variable {P : Program} {ro : Option Nat} {n N : Nat} {ds : List Deferred} {w0 : World} {X : Nat → Prop} {Q : Exit → Act → World → Prop} {ops : List Oper} {σ : Slots} {η : Hp} {rest : List Oper}
variable {d : Option Tmp} {ty : TypeId} {pos : String} {aft : Array Edge} {g : Option (Nat × Bool)}
/-- a store into a row that has been appended to -/
theorem xo_storeO (T : Tys P) {t : TypeId} {p x : Operand} {b k m cap : Nat} {xs : List Value} {te : TypeId} {v : Value} {η' : Hp} (hg : gS ops σ g = some true) (ht : look t T.tk = some 0) (hp : ev σ p = some (.pointer (some (Addr.add ⟨b, 0, none⟩ k)))) (hx : ev σ x = some v)
    (hm : (b, true, orow te 1 m cap xs) ∈ η) (hv : v.cells = #[v]) (h1 : v.oneCell' = true) (hlt : k < m) (hU : Upd b (orow te 1 m cap (xs.set k v)) η η') (hN : dstOK N d = true)
    (h : XO P ro n N ds w0 X Q ops (putS d undef σ) η' rest) : XO P ro n N ds w0 X Q ops σ η (⟨d, .store t p x, ty, pos, aft, g⟩ :: rest) :=
  xo_base rfl hg fun a w ha hw => by
    have h2 : (sizeOf t).run P w = .ok 1 w := (T.htk _ (look_mem ht)).2 w
    obtain ⟨o, h4, cur, rfl, h5, h6, h7, h8⟩ := hw.bl _ hm
    have hkc : k < cur.size := by omega
    have hcell : w.cell? ⟨b, k, none⟩ = some (cur[k]'hkc) := by
      rw [cell_of_row w b k _ te _ h4]
      simp [Array.getElem?_eq_getElem hkc]
    have hfz : w.frozen? ⟨b, k, none⟩ = false := frozen_of_row w b k _ te h4
    have hst : (store ⟨b, k, none⟩ v .plain).run P w = .ok () (w.setCell ⟨b, k, none⟩ v) := by
      rw [run_store P w _ v _ h1, hcell]
      simp [hfz]
    have hb' : (w.setCell ⟨b, k, none⟩ v).heap[b]? = some (.cells (cur.setIfInBounds k v) te (0, 0)) := heap_setCell_same w b k _ te v h4
    have h3 := ha.ev hp
    rw [Addr.add_lit, Nat.zero_add] at h3
    refine ⟨.skip, _, undef, ?_, .inr ⟨rfl, rfl⟩, h _ _ (ha.put hN _) (hw.upd hU (OneB.setCell w b k v) hb' ⟨_, rfl, h5, h6, by simpa using h7, ?_⟩)⟩
    · simp only [execOp, h3, ha.ev hx, Instr.storeAt, Instr.sureAddr, storeVar, Sem.run_bind, Sem.run_pure, Result.andThen_ok, h2, hv, List.size_toArray, List.length_cons, List.length_nil, ne_eq, not_true_eq_false, ↓reduceIte, storeCells, Addr.add_zero', hst]
    · rw [Array.toList_setIfInBounds, ← h8, List.take_set]
/-- from a place on -/
theorem xo_sliceLo (T : Tys P) {t e : TypeId} {x lo : Operand} {b m cap i : Nat} (hg : gS ops σ g = some true) (ht : look t T.el = some e) (hk : look e T.tk = some 0) (hx : ev σ x = some (.slice (some ⟨b, 0, none⟩) m cap)) (hl : ev σ lo = some (.int .i64 (i : Int))) (hi : i ≤ m) (hc : i < cap) (hN : dstOK N d = true)
    (h : XO P ro n N ds w0 X Q ops (putS d (.slice (some ⟨b, i, none⟩) (m - i) (cap - i)) σ) η rest) : XO P ro n N ds w0 X Q ops σ η (⟨d, .slice t x (some lo) none none, ty, pos, aft, g⟩ :: rest) :=
  xo_val _ rfl hg hN (fun a w ha hw => by
    have h1 := T.hel _ (look_mem ht)
    simp only at h1
    have h2 : (sizeOf e).run P w = .ok 1 w := (T.htk _ (look_mem hk)).2 w
    have hel : P.elem t = e := by simp [Program.elem, h1]
    have hu : P.underlying t = some (.slice (P.elem t)) := by rw [hel]; exact h1
    have h3 := run_slice_l (P := P) w t (some ⟨b, 0, none⟩) m cap hu .i64 (i : Int) (by omega) (by omega)
    rw [hel, h2] at h3
    simp only [execOp, Option.map_some, Option.map_none, ha.ev hx, ha.ev hl, Sem.run_bind, run_sliceAt_slice (P := P) w t _ _ _ _ hu, h3, Result.andThen_ok, sliced]
    have : ¬ cap = i := by omega
    simp [this, Addr.add_lit]) h
/-- up to a place -/
theorem xo_sliceHi (T : Tys P) {t e : TypeId} {x hi_ : Operand} {b m cap i : Nat} (hg : gS ops σ g = some true) (ht : look t T.el = some e) (hk : look e T.tk = some 0) (hx : ev σ x = some (.slice (some ⟨b, 0, none⟩) m cap)) (hl : ev σ hi_ = some (.int .i64 (i : Int))) (hc : i ≤ cap) (hN : dstOK N d = true)
    (h : XO P ro n N ds w0 X Q ops (putS d (.slice (some ⟨b, 0, none⟩) i cap) σ) η rest) : XO P ro n N ds w0 X Q ops σ η (⟨d, .slice t x none (some hi_) none, ty, pos, aft, g⟩ :: rest) :=
  xo_val _ rfl hg hN (fun a w ha hw => by
    have h1 := T.hel _ (look_mem ht)
    simp only at h1
    have h2 : (sizeOf e).run P w = .ok 1 w := (T.htk _ (look_mem hk)).2 w
    have hel : P.elem t = e := by simp [Program.elem, h1]
    have hu : P.underlying t = some (.slice (P.elem t)) := by rw [hel]; exact h1
    have h3 := run_slice_h (P := P) w t (some ⟨b, 0, none⟩) m cap hu .i64 (i : Int) (by omega) (by omega)
    rw [hel, h2] at h3
    simp only [execOp, Option.map_some, Option.map_none, ha.ev hx, ha.ev hl, Sem.run_bind, run_sliceAt_slice (P := P) w t _ _ _ _ hu, h3, Result.andThen_ok, sliced]
    simp [Addr.add_zero']) h
theorem setSeg_ok : ∀ (i : Nat) (vs cs : List Value), i + vs.length ≤ cs.length → ∃ cs', setSeg i vs cs = some cs' ∧ cs'.length = cs.length ∧ cs'.take i = cs.take i := by
  intro i
  induction i with
  | zero =>
    intro vs
    induction vs with
    | nil => intro cs _; exact ⟨cs, by simp [setSeg], rfl, rfl⟩
    | cons v vs ih =>
      intro cs h
      cases cs with
      | nil => simp at h
      | cons x r =>
        obtain ⟨c', h1, h2, _⟩ := ih r (by simp at h ⊢; omega)
        exact ⟨v :: c', by simp [setSeg, h1], by simp [h2], by simp⟩
  | succ i ih =>
    intro vs cs h
    cases cs with
    | nil => simp at h
    | cons x r =>
      obtain ⟨c', h1, h2, h3⟩ := ih vs r (by simp at h ⊢; omega)
      exact ⟨x :: c', by simp [setSeg, h1], by simp [h2], by simp [h3]⟩
/-- the rest is cleared: what lies ahead of it stays -/
theorem xo_clear (T : Tys P) {t e : TypeId} {x : Operand} {b m cap i k c : Nat} {xs : List Value} {z : Value} {η' : Hp} (hg : gS ops σ g = some true) (ht : look t T.el = some e) (hz : look e T.zs = some z) (hzc : z.cells = #[z]) (hz1 : z.oneCell' = true) (hx : ev σ x = some (.slice (some ⟨b, i, none⟩) k c)) (hk : i + k = m) (hkp : 0 < k)
    (hm : (b, true, orow e 1 m cap xs) ∈ η) (hU : Upd b (orow e 1 i cap (xs.take i)) η η') (hN : dstOK N d = true)
    (h : XO P ro n N ds w0 X Q ops (putS d (.tuple #[]) σ) η' rest) : XO P ro n N ds w0 X Q ops σ η (⟨d, .call { callee := .builtin .clear, args := #[x], argTypes := #[t] }, ty, pos, aft, g⟩ :: rest) :=
  xo_base rfl hg fun a w ha hw => by
    have h1 := T.hel _ (look_mem ht)
    have h3 := T.hzs _ (look_mem hz) w
    simp only at h1 h3
    obtain ⟨o, h4, cur, rfl, h5, h6, h7, h8⟩ := hw.bl _ hm
    have hzl : (Builtin.zeroCells z.cells k).toList.length = k := by
      have := size_zeroCells z.cells k
      rw [hzc] at this ⊢
      simpa using this
    have hall : ∀ v ∈ (Builtin.zeroCells z.cells k).toList, v.oneCell' = true := by
      intro v hv
      rw [hzc] at hv
      simp only [Builtin.zeroCells, Array.toList_map, List.mem_map, Nat.mod_one] at hv
      obtain ⟨j, _, rfl⟩ := hv
      simp [hz1, Nat.mod_one]
    obtain ⟨cs', hs, hl', ht'⟩ := setSeg_ok i (Builtin.zeroCells z.cells k).toList cur.toList (by rw [hzl]; simp; omega)
    obtain ⟨w', hr, ho, hb⟩ := run_storeCells (P := P) b e (Builtin.zeroCells z.cells k).toList cur.toList i 0 cs' w hall hs (by simpa using h4)
    refine ⟨_, w', .tuple #[], ?_, .inl rfl, h _ _ (ha.put hN _) (hw.upd hU ho hb ⟨cs'.toArray, rfl, by omega, h6, by simp [hl', h7], ?_⟩)⟩
    · obtain ⟨k', rfl⟩ : ∃ q, k = q + 1 := ⟨k - 1, by omega⟩
      simp [execOp, resolve, invoke, builtin, Builtin.clear_, run_underlying h1, h3, ha.ev hx, hr]
    · simp only [Nat.mul_one]
      rw [ht', ← h8, Nat.mul_one, List.take_take, Nat.min_eq_left (by omega)]
/-- a row of which fewer elements are looked at -/
theorem orow_take {e : TypeId} {m cap i : Nat} {xs : List Value} (hi : i ≤ m) {o : Obj} (h : orow e 1 m cap xs o) : orow e 1 i cap (xs.take i) o := by
  obtain ⟨cur, h1, h2, h3, h4, h5⟩ := h
  refine ⟨cur, h1, by omega, h3, h4, ?_⟩
  rw [← h5, Nat.mul_one, Nat.mul_one, List.take_take, Nat.min_eq_left hi]
end
end Go.Proofs.Ytcmepdamemnbkaa
