/- SX: a walk by rules: what the slots of a frame hold, what the blocks of the call's own hold; each operation is one rule. No program in sight. -/
import Derived.WalkKit
import Derived.WalkSpells
import Derived.WalkLawsBesides
import Derived.Laws.EntriesVeiled
import Derived.Laws.Rows
import Derived.Laws.Cells
import Derived.RangeFuncCalls
import Derived.OrdersIn
import Derived.Below
import Derived.IntWalk
import Derived.Sort.LoopGhostIn
import Derived.Shelf.Abstract
import Derived.Test.YtcmepdamemnbkaaRound
import Derived.Test.YtcmepdamemnbkaaMaps
namespace Go.Proofs.Ytcmepdamemnbkaa
open Go.RowKit
set_option linter.unusedVariables false
set_option linter.unusedSimpArgs false

/-! ### slots -/
abbrev Slots := List (Nat × Value)
def slot (i : Nat) : Slots → Option Value
  | [] => none
  | p :: r => bif Nat.beq p.1 i then some p.2 else slot i r
def ev (σ : Slots) : Operand → Option Value
  | .tmp t => slot t σ
  | .const v => some v
  | .global g => some (.pointer (some ⟨g, 0, none⟩))
  | .func f => some (.func (.func f) #[] #[])
def evs (σ : Slots) : List Operand → Option (List Value)
  | [] => some []
  | x :: r => match ev σ x, evs σ r with
    | some v, some vs => some (v :: vs)
    | _, _ => none
def putS : Option Tmp → Value → Slots → Slots
  | some d, v, σ => (d, v) :: σ
  | none, _, σ => σ
def dstOK (N : Nat) : Option Tmp → Bool
  | some d => Nat.blt d N
  | none => true
structure SOK (N : Nat) (ds : List Deferred) (σ : Slots) (a : Act) : Prop where
  sz : a.tmps.size = N
  sl : ∀ i v, slot i σ = some v → a.tmps[i]? = some v
  df : a.defers = ds
theorem getD_of {α : Type} {l : Array α} {i : Nat} {v d : α} (h : l[i]? = some v) : l.getD i d = v := by
  rw [Array.getD_eq_getD_getElem?, h]; rfl
theorem SOK.ev {N : Nat} {ds : List Deferred} {σ : Slots} {a : Act} (h : SOK N ds σ a) {x : Operand} {v : Value} (e : ev σ x = some v) : a.eval x = v := by
  cases x with
  | tmp t => exact getD_of (h.sl t v e)
  | const c => exact Option.some.inj e
  | global g => exact Option.some.inj e
  | func f => exact Option.some.inj e
theorem SOK.evs {N : Nat} {ds : List Deferred} {σ : Slots} {a : Act} (h : SOK N ds σ a) : ∀ {xs : List Operand} {vs : List Value}, evs σ xs = some vs → xs.map a.eval = vs
  | [], vs, e => by cases e; rfl
  | x :: r, vs, e => by
    unfold Go.Proofs.Ytcmepdamemnbkaa.evs at e
    split at e
    · rename_i v ws h1 h2
      cases e
      rw [List.map_cons, h.ev h1, h.evs h2]
    · cases e
theorem SOK.put {N : Nat} {ds : List Deferred} {σ : Slots} {a : Act} (h : SOK N ds σ a) {d : Option Tmp} (hd : dstOK N d = true) (v : Value) : SOK N ds (putS d v σ) (a.put d v) := by
  cases d with
  | none => exact h
  | some d =>
    have hlt : d < N := by simpa [dstOK, Nat.blt_eq] using hd
    refine ⟨by simp [Act.put, h.sz], fun i u hu => ?_, h.df⟩
    simp only [Act.put]
    unfold putS slot at hu
    cases hb : Nat.beq d i with
    | true =>
      have e : d = i := Nat.eq_of_beq_eq_true hb
      simp only [hb, cond_true, Option.some.injEq] at hu
      subst e
      subst hu
      rw [Array.getElem?_setIfInBounds_self, if_pos (by rw [h.sz]; exact hlt)]
    | false =>
      have e : d ≠ i := fun e => by subst e; simp at hb
      simp only [hb, cond_false] at hu
      rw [Array.getElem?_setIfInBounds_ne e]
      exact h.sl i u hu
/-- these slots hold, too -/
def subS : Slots → Slots → Prop
  | [], _ => True
  | p :: r, σ => slot p.1 σ = some p.2 ∧ subS r σ
theorem SOK.sub {N : Nat} {ds : List Deferred} {σ : Slots} {a : Act} (h : SOK N ds σ a) : ∀ {σ' : Slots}, subS σ' σ → SOK N ds σ' a
  | [], _ => ⟨h.sz, (fun i v e => by cases e), h.df⟩
  | p :: r, ⟨h1, h2⟩ => by
    have ih := h.sub h2
    refine ⟨h.sz, fun i v e => ?_, h.df⟩
    unfold slot at e
    cases hb : Nat.beq p.1 i with
    | true =>
      have e' : p.1 = i := Nat.eq_of_beq_eq_true hb
      simp only [hb, cond_true, Option.some.injEq] at e
      subst e'
      subst e
      exact h.sl _ _ h1
    | false =>
      simp only [hb, cond_false] at e
      exact ih.sl i v e

/-! ### blocks -/
abbrev HP := Obj → Prop
abbrev Hp := List (Nat × Bool × HP)
/-- a block of cells -/
def cel (cs : List Value) (t : TypeId) : HP := fun o => o = .cells cs.toArray t (0, 0)
/-- what lay in the world w0 lies as it lay, but for the blocks of X -/
structure Kx (X : Nat → Prop) (w0 w : World) : Prop where
  os : w.os = w0.os
  tape : w.tape = w0.tape
  output : w.output = w0.output
  size : w0.heap.size ≤ w.heap.size
  block : ∀ k, k < w0.heap.size → ¬ X k → w.heap[k]? = w0.heap[k]?
def XNone : Nat → Prop := fun _ => False
theorem Kx.refl (X : Nat → Prop) (w : World) : Kx X w w := ⟨rfl, rfl, rfl, Nat.le_refl _, fun _ _ _ => rfl⟩
theorem Kx.below {w0 w : World} (h : Kx XNone w0 w) : Below w0.heap.size w0 w := ⟨h.os, h.tape, h.output, h.size, fun k hk => h.block k hk (fun x => x)⟩
theorem Kx.of_below {X : Nat → Prop} {w0 w : World} (h : Below w0.heap.size w0 w) : Kx X w0 w := ⟨h.os, h.tape, h.output, h.size, fun k hk _ => h.block k hk⟩
theorem Kx.cell {X : Nat → Prop} {w0 w : World} (h : Kx X w0 w) {p : Addr} {v : Value} (hc : w0.cell? p = some v) (hx : ¬ X p.block) : w.cell? p = some v := by
  have hb := World.block_lt_of_cell? w0 p hc
  unfold World.cell? at hc ⊢
  rw [h.block _ hb hx]
  exact hc
structure WOK (w0 : World) (X : Nat → Prop) (η : Hp) (w : World) : Prop where
  kx : Kx X w0 w
  bl : ∀ e ∈ η, ∃ o, w.heap[e.1]? = some o ∧ e.2.2 o
  nd : (η.map (·.1)).Nodup
  ow : ∀ e ∈ η, e.2.1 = true → w0.heap.size ≤ e.1 ∨ X e.1
theorem WOK.start (X : Nat → Prop) (w : World) : WOK w X [] w := ⟨Kx.refl X w, by simp, by simp, by simp⟩
theorem WOK.lt {w0 : World} {X : Nat → Prop} {η : Hp} {w : World} (h : WOK w0 X η w) {e : Nat × Bool × HP} (he : e ∈ η) : e.1 < w.heap.size := by
  obtain ⟨o, h1, _⟩ := h.bl e he
  exact (Array.getElem?_eq_some_iff.1 h1).1
theorem WOK.alloc {w0 : World} {X : Nat → Prop} {η : Hp} {w : World} (h : WOK w0 X η w) (o : Obj) (φ : HP) (hφ : φ o) : WOK w0 X ((w.heap.size, true, φ) :: η) (w.alloc o) := by
  refine ⟨⟨h.kx.os, h.kx.tape, h.kx.output, by simp; have := h.kx.size; omega, fun k hk hx => (Below.heap_alloc w o k (Nat.lt_of_lt_of_le hk h.kx.size)).trans (h.kx.block k hk hx)⟩, ?_, ?_, ?_⟩
  · intro e he
    rcases List.mem_cons.1 he with rfl | he
    · exact ⟨o, heap_alloc_new w o, hφ⟩
    · obtain ⟨o', h1, h2⟩ := h.bl e he
      exact ⟨o', (Below.heap_alloc w o _ (h.lt he)).trans h1, h2⟩
  · simp only [List.map_cons, List.nodup_cons]
    refine ⟨fun hm => ?_, h.nd⟩
    obtain ⟨e, he, h1⟩ := List.mem_map.1 hm
    have := h.lt he
    omega
  · intro e he hw
    rcases List.mem_cons.1 he with rfl | he
    · exact .inl h.kx.size
    · exact h.ow e he hw
/-- a block of the list reads otherwise now -/
inductive Upd (b : Nat) (φ' : HP) : Hp → Hp → Prop
  | head {φ : HP} {r : Hp} : Upd b φ' ((b, true, φ) :: r) ((b, true, φ') :: r)
  | tail {e : Nat × Bool × HP} {r r' : Hp} (h : Upd b φ' r r') : Upd b φ' (e :: r) (e :: r')
theorem Upd.keys {b : Nat} {φ' : HP} {η η' : Hp} (h : Upd b φ' η η') : η'.map (·.1) = η.map (·.1) := by
  induction h with
  | head => rfl
  | tail _ ih => simp only [List.map_cons, ih]
theorem Upd.has {b : Nat} {φ' : HP} {η η' : Hp} (h : Upd b φ' η η') : ∃ φ, (b, true, φ) ∈ η := by
  induction h with
  | head => exact ⟨_, List.mem_cons_self ..⟩
  | tail _ ih => obtain ⟨φ, h⟩ := ih; exact ⟨φ, List.mem_cons_of_mem _ h⟩
theorem Upd.mem {b : Nat} {φ' : HP} {η η' : Hp} (h : Upd b φ' η η') : ∀ e ∈ η', e = (b, true, φ') ∨ e ∈ η := by
  induction h with
  | head =>
    intro e he
    rcases List.mem_cons.1 he with rfl | he
    · exact .inl rfl
    · exact .inr (List.mem_cons_of_mem _ he)
  | tail _ ih =>
    intro e he
    rcases List.mem_cons.1 he with rfl | he
    · exact .inr (List.mem_cons_self ..)
    · rcases ih e he with h | h
      · exact .inl h
      · exact .inr (List.mem_cons_of_mem _ h)
theorem Upd.memNe {b : Nat} {φ' : HP} {η η' : Hp} (h : Upd b φ' η η') (hn : (η.map (·.1)).Nodup) : ∀ e ∈ η', e = (b, true, φ') ∨ (e ∈ η ∧ e.1 ≠ b) := by
  induction h with
  | head =>
    intro e he
    rcases List.mem_cons.1 he with rfl | he
    · exact .inl rfl
    · refine .inr ⟨List.mem_cons_of_mem _ he, fun q => ?_⟩
      simp only [List.map_cons, List.nodup_cons] at hn
      exact hn.1 (List.mem_map.2 ⟨e, he, q⟩)
  | tail h ih =>
    intro e he
    simp only [List.map_cons, List.nodup_cons] at hn
    rcases List.mem_cons.1 he with rfl | he
    · refine .inr ⟨List.mem_cons_self .., fun q => ?_⟩
      obtain ⟨φ, hb⟩ := h.has
      exact hn.1 (List.mem_map.2 ⟨_, hb, q.symm⟩)
    · rcases ih hn.2 e he with h | h
      · exact .inl h
      · exact .inr ⟨List.mem_cons_of_mem _ h.1, h.2⟩
/-- what differs lies in one block alone -/
structure OneB (b : Nat) (w w' : World) : Prop where
  os : w'.os = w.os
  tape : w'.tape = w.tape
  output : w'.output = w.output
  size : w'.heap.size = w.heap.size
  block : ∀ k, k ≠ b → w'.heap[k]? = w.heap[k]?
theorem OneB.refl (b : Nat) (w : World) : OneB b w w := ⟨rfl, rfl, rfl, rfl, fun _ _ => rfl⟩
theorem OneB.trans {b : Nat} {w w1 w2 : World} (h : OneB b w w1) (k : OneB b w1 w2) : OneB b w w2 := ⟨k.os.trans h.os, k.tape.trans h.tape, k.output.trans h.output, k.size.trans h.size, fun i hi => (k.block i hi).trans (h.block i hi)⟩
theorem OneB.setCell (w : World) (b i : Nat) (v : Value) : OneB b w (w.setCell ⟨b, i, none⟩ v) := ⟨rfl, rfl, rfl, by simp, fun k hk => Below.heap_setCell w _ v k hk⟩
theorem OneB.putObj (w : World) (b : Nat) (o : Obj) : OneB b w (w.putObj b o) := ⟨rfl, rfl, rfl, by simp, fun k hk => World.putObj_heap_other hk⟩
theorem WOK.upd {w0 : World} {X : Nat → Prop} {η η' : Hp} {w w' : World} {b : Nat} {φ' : HP} (h : WOK w0 X η w) (hU : Upd b φ' η η') (h1 : OneB b w w') {o : Obj} (ho : w'.heap[b]? = some o) (hφ : φ' o) : WOK w0 X η' w' := by
  obtain ⟨φ, hb⟩ := hU.has
  have hown := h.ow _ hb rfl
  refine ⟨⟨h1.os.trans h.kx.os, h1.tape.trans h.kx.tape, h1.output.trans h.kx.output, by rw [h1.size]; exact h.kx.size, fun k hk hx => ?_⟩, ?_, by rw [hU.keys]; exact h.nd, ?_⟩
  · refine (h1.block k (fun e => ?_)).trans (h.kx.block k hk hx)
    subst e
    rcases hown with h2 | h2
    · exact absurd hk (Nat.not_lt.2 h2)
    · exact hx h2
  · intro e he
    rcases hU.memNe h.nd e he with rfl | ⟨he, hne⟩
    · exact ⟨o, ho, hφ⟩
    · obtain ⟨o', h2, h3⟩ := h.bl e he
      exact ⟨o', (h1.block _ hne).trans h2, h3⟩
  · intro e he hw
    rcases hU.mem e he with rfl | he
    · exact hown
    · exact h.ow e he hw
theorem WOK.below {w0 : World} {X : Nat → Prop} {η : Hp} {w w' : World} (h : WOK w0 X η w) (hb : Below w.heap.size w w') : WOK w0 X η w' := by
  refine ⟨⟨hb.os.trans h.kx.os, hb.tape.trans h.kx.tape, hb.output.trans h.kx.output, Nat.le_trans h.kx.size hb.size, fun k hk hx => (hb.block k (Nat.lt_of_lt_of_le hk h.kx.size)).trans (h.kx.block k hk hx)⟩, ?_, h.nd, h.ow⟩
  intro e he
  obtain ⟨o, h1, h2⟩ := h.bl e he
  exact ⟨o, (hb.block _ (h.lt he)).trans h1, h2⟩
/-- a call has laid a block -/
theorem WOK.more {w0 : World} {X : Nat → Prop} {η : Hp} {w w' : World} (h : WOK w0 X η w) (hb : Below w.heap.size w w') {b : Nat} {o : Obj} {φ : HP} (hbb : w.heap.size ≤ b) (ho : w'.heap[b]? = some o) (hφ : φ o) : WOK w0 X ((b, true, φ) :: η) w' := by
  have h' := h.below hb
  refine ⟨h'.kx, ?_, ?_, ?_⟩
  · intro e he
    rcases List.mem_cons.1 he with rfl | he
    · exact ⟨o, ho, hφ⟩
    · exact h'.bl e he
  · simp only [List.map_cons, List.nodup_cons]
    refine ⟨fun hm => ?_, h.nd⟩
    obtain ⟨e, he, h1⟩ := List.mem_map.1 hm
    have := h.lt he
    omega
  · intro e he hw
    rcases List.mem_cons.1 he with rfl | he
    · exact .inl (Nat.le_trans h.kx.size hbb)
    · exact h.ow e he hw
theorem WOK.drew {w0 : World} {X : Nat → Prop} {η : Hp} {w : World} (h : WOK w0 X η w) : WOK w0 X η w.drew := ⟨⟨h.kx.os, h.kx.tape, h.kx.output, h.kx.size, h.kx.block⟩, h.bl, h.nd, h.ow⟩
def subH : Hp → Hp → Prop
  | [], _ => True
  | e :: r, η => e ∈ η ∧ subH r η
theorem subH_mem : ∀ {η' η : Hp}, subH η' η → ∀ e ∈ η', e ∈ η
  | [], _, _, e, he => by simp at he
  | x :: r, η, h, e, he => by
    rcases List.mem_cons.1 he with rfl | he
    · exact h.1
    · exact subH_mem h.2 e he
/-- fewer blocks, in the same order -/
theorem WOK.sub {w0 : World} {X : Nat → Prop} {η η' : Hp} {w : World} (h : WOK w0 X η w) (hs : List.Sublist η' η) : WOK w0 X η' w :=
  ⟨h.kx, fun e he => h.bl e (hs.subset he), (hs.map _).nodup h.nd, fun e he => h.ow e (hs.subset he)⟩
theorem WOK.perm {w0 : World} {X : Nat → Prop} {η η' : Hp} {w : World} (h : WOK w0 X η w) (hp : List.Perm η η') : WOK w0 X η' w :=
  ⟨h.kx, fun e he => h.bl e (hp.mem_iff.2 he), (hp.map _).nodup_iff.1 h.nd, fun e he => h.ow e (hp.mem_iff.2 he)⟩
theorem WOK.obj {w0 : World} {X : Nat → Prop} {η : Hp} {w : World} (h : WOK w0 X η w) {b : Nat} {wr : Bool} {cs : List Value} {t : TypeId} (he : (b, wr, cel cs t) ∈ η) : w.heap[b]? = some (.cells cs.toArray t (0, 0)) := by
  obtain ⟨o, h1, h2⟩ := h.bl _ he
  rw [h1]
  exact congrArg some h2
theorem WOK.cell {w0 : World} {X : Nat → Prop} {η : Hp} {w : World} (h : WOK w0 X η w) {b : Nat} {wr : Bool} {cs : List Value} {t : TypeId} (he : (b, wr, cel cs t) ∈ η) (i : Nat) {v : Value} (hv : cs[i]? = some v) : w.cell? ⟨b, i, none⟩ = some v := by
  rw [cell_of_row w b i _ t _ (h.obj he)]
  simpa using hv

/-! ### types -/
def look {α : Type} (i : Nat) : List (Nat × α) → Option α
  | [] => none
  | p :: r => bif Nat.beq p.1 i then some p.2 else look i r
theorem look_mem {α : Type} {i : Nat} {v : α} : ∀ {l : List (Nat × α)}, look i l = some v → (i, v) ∈ l
  | [], h => by cases h
  | p :: r, h => by
    unfold look at h
    cases hb : Nat.beq p.1 i with
    | true =>
      simp only [hb, cond_true, Option.some.injEq] at h
      have := Nat.eq_of_beq_eq_true hb
      subst this
      subst h
      exact List.mem_cons_self ..
    | false =>
      simp only [hb, cond_false] at h
      exact List.mem_cons_of_mem _ (look_mem h)
/-- what is known of a program's types: how many cells (0: one, by itself), zero values, where fields lie, elements, kinds of numbers -/
structure Tys (P : Program) where
  mixed : P.follows .mixedOrders = true
  tk : List (Nat × Nat)
  htk : ∀ p ∈ tk, (∀ w, (isAgg p.1).run P w = .ok (Nat.blt 0 p.2) w) ∧ (∀ w, (sizeOf p.1).run P w = .ok (bif Nat.beq p.2 0 then 1 else p.2) w)
  zs : List (Nat × Value)
  hzs : ∀ p ∈ zs, ∀ w, (zeroValue p.1).run P w = .ok p.2 w
  fo : List (Nat × List Nat)
  hfo : ∀ p ∈ fo, ∀ f off, p.2[f]? = some off → ∀ a w, (Instr.fieldAt p.1 (.pointer (some a)) f).run P w = .ok (.pointer (some (a.add off))) w
  el : List (Nat × Nat)
  hel : ∀ p ∈ el, P.underlying p.1 = some (.slice p.2)
  ik : List (Nat × IntKind)
  hik : ∀ p ∈ ik, P.underlying p.1 = some (.int p.2)
  mp : List (Nat × Nat × Nat)
  hmp : ∀ p ∈ mp, P.underlying p.1 = some (.map p.2.1 p.2.2)

/-! ### goals -/
section
variable {P : Program} {ro : Option Nat} {n N : Nat} {ds : List Deferred} {w0 : World} {X : Nat → Prop}
/-- the code c, from these slots and blocks on -/
def XC (P : Program) (ro : Option Nat) (n N : Nat) (ds : List Deferred) (w0 : World) (X : Nat → Prop) (Q : Exit → Act → World → Prop) (σ : Slots) (η : Hp) (c : Code) : Prop :=
  ∀ a w, SOK N ds σ a → WOK w0 X η w → c.wpIn (wideR ro) n P Q a w
/-- the operations that are left of a region -/
def XO (P : Program) (ro : Option Nat) (n N : Nat) (ds : List Deferred) (w0 : World) (X : Nat → Prop) (Q : Exit → Act → World → Prop) (ops : List Oper) (σ : Slots) (η : Hp) (rest : List Oper) : Prop :=
  ∀ a w, SOK N ds σ a → WOK w0 X η w → wpListIn (wideR ro) n P ops.toArray Q rest a w
/-- a way out -/
def XQ (N : Nat) (ds : List Deferred) (w0 : World) (X : Nat → Prop) (Q : Exit → Act → World → Prop) (e : Exit) (σ : Slots) (η : Hp) : Prop :=
  ∀ a w, SOK N ds σ a → WOK w0 X η w → Q e a w
variable {Q : Exit → Act → World → Prop} {σ : Slots} {η : Hp}

theorem xc_seq {x y : Code} (h : XC P ro n N ds w0 X (Exit.then (y.wpIn (wideR ro) n P Q) Q) σ η x) : XC P ro n N ds w0 X Q σ η (.seq x y) := fun a w ha hw => wpIn_seq (h a w ha hw)
theorem xc_skip (h : XQ N ds w0 X Q .normal σ η) : XC P ro n N ds w0 X Q σ η .skip := fun a w ha hw => wpIn_skip (h a w ha hw)
theorem xc_label {l : Nat} (h : XQ N ds w0 X Q .normal σ η) : XC P ro n N ds w0 X Q σ η (.label l) := fun a w ha hw => wpIn_label (h a w ha hw)
theorem xc_exit {id : Nat} (h : XQ N ds w0 X Q (.exit id) σ η) : XC P ro n N ds w0 X Q σ η (.exit id) := fun a w ha hw => wpIn_exit (h a w ha hw)
theorem xc_ret (h : XQ N ds w0 X Q .ret σ η) : XC P ro n N ds w0 X Q σ η .ret := fun a w ha hw => wpIn_ret (h a w ha hw)
theorem xc_block {id : Nat} {c : Code} (h : XC P ro n N ds w0 X (Exit.inBlock id Q) σ η c) : XC P ro n N ds w0 X Q σ η (.block id c) := fun a w ha hw => wpIn_block (h a w ha hw)
theorem xc_scope {c : Code} (h : XC P ro n N ds w0 X (Exit.noGoto Q) σ η c) : XC P ro n N ds w0 X Q σ η (.scope c) := fun a w ha hw => wpIn_scope_straight (h a w ha hw)
theorem xc_cond {c : Operand} {x y : Code} {b : Bool} (hc : ev σ c = some (.bool b)) (ht : b = true → XC P ro n N ds w0 X Q σ η x) (hf : b = false → XC P ro n N ds w0 X Q σ η y) : XC P ro n N ds w0 X Q σ η (.cond c x y) :=
  fun a w ha hw => wpIn_cond_split (ha.ev hc) (fun h => ht h a w ha hw) (fun h => hf h a w ha hw)
theorem xc_condT {c : Operand} {x y : Code} (hc : ev σ c = some (.bool true)) (ht : XC P ro n N ds w0 X Q σ η x) : XC P ro n N ds w0 X Q σ η (.cond c x y) :=
  fun a w ha hw => wpIn_cond_true (ha.ev hc) (ht a w ha hw)
theorem xc_condF {c : Operand} {x y : Code} (hc : ev σ c = some (.bool false)) (hf : XC P ro n N ds w0 X Q σ η y) : XC P ro n N ds w0 X Q σ η (.cond c x y) :=
  fun a w ha hw => wpIn_cond_false (ha.ev hc) (hf a w ha hw)
theorem xc_region {id : Nat} {l : List Oper} (h : XO P ro n N ds w0 X Q l σ η l) : XC P ro n N ds w0 X Q σ η (.region id l.toArray false) := fun a w ha hw => wpIn_region_lit (h a w ha hw)
/-- both ways of a test meet here -/
theorem xc_cut {γ : Type} {x y : Code} (C : γ → Prop) (S : γ → Slots) (H : γ → Hp) (h1 : XC P ro n N ds w0 X (Exit.then (fun a w => ∃ g, C g ∧ SOK N ds (S g) a ∧ WOK w0 X (H g) w) Q) σ η x)
    (h2 : ∀ g, C g → XC P ro n N ds w0 X Q (S g) (H g) y) : XC P ro n N ds w0 X Q σ η (.seq x y) := by
  refine xc_seq fun a w ha hw => wpIn_mono (h1 a w ha hw) ?_
  intro e a' w' hq
  cases e with
  | normal => obtain ⟨g, hg, h3, h4⟩ := hq; exact h2 g hg a' w' h3 h4
  | exit id => exact hq
  | goto l => exact hq
  | ret => exact hq
  | panic c => exact hq
  | outgrown => exact hq
theorem xc_loop {γ : Type} {c : Code} (C : γ → Prop) (S : γ → Slots) (H : γ → Hp) (μ : γ → Nat) (g0 : γ) (hC : C g0) (hs : subS (S g0) σ) (hh : List.Sublist (H g0) η)
    (round : ∀ g, C g → XC P ro n N ds w0 X (Exit.then (fun a w => ∃ k, k < μ g ∧ ∃ g', C g' ∧ μ g' = k ∧ SOK N ds (S g') a ∧ WOK w0 X (H g') w) Q) (S g) (H g) c) : XC P ro n N ds w0 X Q σ η (.loop c) := by
  intro a w ha hw
  refine wpIn_loop_ghost (fun k a w => ∃ g', C g' ∧ μ g' = k ∧ SOK N ds (S g') a ∧ WOK w0 X (H g') w) (μ g0) ⟨g0, hC, rfl, ha.sub hs, hw.sub hh⟩ ?_
  rintro k a w ⟨g, hg, rfl, h1, h2⟩
  exact round g hg a w h1 h2
/-- the round's end -/
theorem xq_again {γ : Type} (C : γ → Prop) (S : γ → Slots) (H : γ → Hp) (μ : γ → Nat) (m : Nat) (g' : γ) (hC : C g') (hm : μ g' < m) (hs : subS (S g') σ) (hh : List.Sublist (H g') η) :
    XQ N ds w0 X (Exit.then (fun a w => ∃ k, k < m ∧ ∃ g', C g' ∧ μ g' = k ∧ SOK N ds (S g') a ∧ WOK w0 X (H g') w) Q) .normal σ η :=
  fun a w ha hw => ⟨_, hm, g', hC, rfl, ha.sub hs, hw.sub hh⟩
theorem xq_meet {γ : Type} (C : γ → Prop) (S : γ → Slots) (H : γ → Hp) (g' : γ) (hC : C g') (hs : subS (S g') σ) (hh : List.Sublist (H g') η) :
    XQ N ds w0 X (Exit.then (fun a w => ∃ g, C g ∧ SOK N ds (S g) a ∧ WOK w0 X (H g) w) Q) .normal σ η :=
  fun a w ha hw => ⟨g', hC, ha.sub hs, hw.sub hh⟩
theorem xq_then {y : Code} (h : XC P ro n N ds w0 X Q σ η y) : XQ N ds w0 X (Exit.then (y.wpIn (wideR ro) n P Q) Q) .normal σ η := h
theorem xq_thenR {K : Act → World → Prop} (h : XQ N ds w0 X Q .ret σ η) : XQ N ds w0 X (Exit.then K Q) .ret σ η := h
theorem xq_thenE {K : Act → World → Prop} {id : Nat} (h : XQ N ds w0 X Q (.exit id) σ η) : XQ N ds w0 X (Exit.then K Q) (.exit id) σ η := h
theorem xq_blockN {id : Nat} (h : XQ N ds w0 X Q .normal σ η) : XQ N ds w0 X (Exit.inBlock id Q) .normal σ η := h
theorem xq_blockR {id : Nat} (h : XQ N ds w0 X Q .ret σ η) : XQ N ds w0 X (Exit.inBlock id Q) .ret σ η := h
theorem xq_blockE {id id' : Nat} (hb : Nat.beq id' id = false) (h : XQ N ds w0 X Q (.exit id') σ η) : XQ N ds w0 X (Exit.inBlock id Q) (.exit id') σ η := fun a w ha hw => by
  have : id' ≠ id := fun e => by subst e; simp at hb
  simp only [Exit.inBlock, if_neg this]
  exact h a w ha hw
theorem xq_blockX {id : Nat} (h : XQ N ds w0 X Q .normal σ η) : XQ N ds w0 X (Exit.inBlock id Q) (.exit id) σ η := fun a w ha hw => by
  simp only [Exit.inBlock, ↓reduceIte]
  exact h a w ha hw
theorem xq_scopeN (h : XQ N ds w0 X Q .normal σ η) : XQ N ds w0 X (Exit.noGoto Q) .normal σ η := h
theorem xq_scopeR (h : XQ N ds w0 X Q .ret σ η) : XQ N ds w0 X (Exit.noGoto Q) .ret σ η := h
theorem xq_scopeE {id : Nat} (h : XQ N ds w0 X Q (.exit id) σ η) : XQ N ds w0 X (Exit.noGoto Q) (.exit id) σ η := h
end
end Go.Proofs.Ytcmepdamemnbkaa
