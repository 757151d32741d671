/- SX: rows of the call's own: append, make, elements at a computed place. No program in sight. / What SX asks of this seat's types (written by wip/tools/gen_tys.py). / SX: a walk by rules: what the slots of a frame hold, what the blocks of the call's own hold; each operation is one rule. No program in sight. / SX: the operations, a rule each. No program in sight. / SX: calls, builtins, maps, rows, r -/
import Derived.Test.YtommeljlfkmpjaaDoorPkLawOriginTells1
import Derived.Maps.AppendAt
import Derived.Deep.OwnRows
import Derived.Test.YtommeljlfkmpjaaDoorProg
import Derived.KernelRfl
import Derived.WalkKit
import Derived.WalkSpells
import Derived.WalkLawsBesides
import Derived.Laws.EntriesVeiled
import Derived.Laws.Rows
import Derived.Laws.Cells
import Derived.RangeFuncCalls
import Derived.OrdersIn
import Derived.Below
import Derived.Sort.Grow
import Derived.Deep.Draws
import Derived.IntWalk
import Derived.Sort.LoopGhostIn
import Derived.Shelf.Abstract
import Derived.RangeFuncNested
import Derived.RangeFuncLeaves
import Derived.Deep.Upon
set_option linter.unusedVariables false
set_option linter.unusedSimpArgs false
namespace Go.Proofs.YtommeljlfkmpjaaDoor
open Go.RowKit Go.MapKept
attribute [local go_sem] Oper.semAt_some
def orow (e : TypeId) (sz n cap : Nat) (xs : List Value) : HP := fun o => ∃ cur : Array Value, o = .cells cur e (0, 0) ∧ n ≤ cap ∧ cap ≤ maxLen ∧ cur.size = cap * sz ∧ cur.toList.take (n * sz) = xs
abbrev RowR := Option (Nat × Nat)
def valR (r : RowR) (n : Nat) : Value := match r with
 | none => .slice none 0 0
 | some p => .slice (some ⟨p.1, 0, none⟩) n p.2
def hpR (e : TypeId) (sz : Nat) (r : RowR) (n : Nat) (xs : List Value) : Hp := match r with
 | none => []
 | some p => [(p.1, true, orow e sz n p.2 xs)]
theorem Upd.app {b : Nat} {φ' : HP} {r r' : Hp} (h : Upd b φ' r r') : ∀ l : Hp, Upd b φ' (l ++ r) (l ++ r')
 | [] => h
 | e :: l => .tail (h.app l)
structure TysR (P : Program) extends Tys P where
 inf : List (Nat × Value × Nat × Nat)
 hinf : ∀ p ∈ inf, (P.info? p.1).map (fun i => (i.zero, i.size, i.bytes)) = some (some p.2.1, p.2.2.1, p.2.2.2)
structure TysB (P : Program) extends TysR P where
 bl : List (Nat × List (Nat × Nat) × Array Value)
 hbl : ∀ p ∈ bl, ∀ (parts : Array (Nat × Value)) (cs : Array Value) (w : World), Instr.fill (fun i => p.2.1[i]?) p.2.2 parts.toList = some cs → (Instr.build p.1 parts).run P w = .ok (.agg cs) w
def evp (σ : Slots) : List (Nat × Operand) → Option (List (Nat × Value))
 | [] => some []
 | p :: r => match ev σ p.2, evp σ r with
  | some v, some vs => some ((p.1, v) :: vs)
  | _, _ => none
theorem SOK.evp {N : Nat} {ds : List Deferred} {σ : Slots} {a : Act} (h : SOK N ds σ a) : ∀ {xs : List (Nat × Operand)} {vs : List (Nat × Value)}, evp σ xs = some vs → xs.map (fun p => (p.1, a.eval p.2)) = vs
 | [], vs, e => by cases e; rfl
 | x :: r, vs, e => by
  unfold Go.Proofs.YtommeljlfkmpjaaDoor.evp at e
  split at e
  ·rename_i v ws h1 h2
   cases e
   rw [List.map_cons, h.ev h1, h.evp h2]
  ·cases e
def fillL : List (Nat × Nat) → List Value → List (Nat × Value) → Option (List Value)
 | _, cs, [] => some cs
 | pl, cs, p :: r => match nth p.1 pl with
  | some q => match Nat.beq p.2.cells.toList.length q.2, setSeg q.1 p.2.cells.toList cs with
   | true, some cs' => fillL pl cs' r
   | _, _ => none
  | none => none
theorem foldl_set : ∀ (vs : List Value) (o j : Nat) (cs cs' : List Value), setSeg (o + j) vs cs = some cs' → o + j + vs.length ≤ cs.length ∧ (vs.zipIdx j).foldl (fun (a : Array Value) (p : Value × Nat) => a.setIfInBounds (o + p.2) p.1) cs.toArray = cs'.toArray := by
 have put1 : ∀ (k : Nat) (v : Value) (vs cs cs' : List Value), setSeg k (v :: vs) cs = some cs' → k < cs.length ∧ setSeg (k + 1) vs (cs.set k v) = some cs' := by
  intro k
  induction k with
  | zero =>
   intro v vs cs cs' h
   cases cs with
   | nil => simp [setSeg] at h
   | cons x r =>
    simp only [setSeg] at h
    split at h
    ·rename_i r' hr
     cases h
     refine ⟨by simp, ?_⟩
     simp only [List.set_cons_zero, setSeg, Nat.zero_add, hr]
    ·cases h
  | succ k ih =>
   intro v vs cs cs' h
   cases cs with
   | nil => simp [setSeg] at h
   | cons x r =>
    simp only [setSeg] at h
    split at h
    ·rename_i r' hr
     cases h
     have := ih v vs r r' hr
     refine ⟨by simp; exact this.1, ?_⟩
     simp only [List.set_cons_succ, setSeg, this.2]
    ·cases h
 have done : ∀ (k : Nat) (cs cs' : List Value), setSeg k [] cs = some cs' → cs' = cs ∧ k ≤ cs.length := by
  intro k
  induction k with
  | zero => intro cs cs' h; simp [setSeg] at h; exact ⟨h.symm, Nat.zero_le _⟩
  | succ k ih =>
   intro cs cs' h
   cases cs with
   | nil => simp [setSeg] at h
   | cons x r =>
    simp only [setSeg] at h
    split at h
    ·rename_i r' hr
     cases h
     have := ih r r' hr
     exact ⟨by rw [this.1], by simp; exact this.2⟩
    ·cases h
 intro vs
 induction vs with
 | nil =>
  intro o j cs cs' h
  have := done _ _ _ h
  exact ⟨by simpa using this.2, by simp [this.1]⟩
 | cons v vs ih =>
  intro o j cs cs' h
  obtain ⟨h1, h2⟩ := put1 _ _ _ _ _ h
  have h3 := ih o (j + 1) (cs.set (o + j) v) cs' (by rw [show o + (j + 1) = o + j + 1 from rfl]; exact h2)
  simp only [List.length_set] at h3
  refine ⟨by simp only [List.length_cons]; omega, ?_⟩
  simp only [List.zipIdx_cons, List.foldl_cons]
  rw [← h3.2]
  congr 1
  simp
theorem fillL_eq (pl : List (Nat × Nat)) : ∀ (ps : List (Nat × Value)) (cs cs' : List Value), fillL pl cs ps = some cs' → Instr.fill (fun i => pl[i]?) cs.toArray ps = some cs'.toArray
 | [], cs, cs', h => by simp [fillL] at h; simp [Instr.fill, h]
 | p :: r, cs, cs', h => by
  unfold fillL at h
  split at h
  ·rename_i q hq
   split at h
   ·rename_i c2 h1 h2
    have ih := fillL_eq pl r c2 cs' h
    rw [nth_eq] at hq
    have h3 := Nat.eq_of_beq_eq_true h1
    obtain ⟨h4, h5⟩ := foldl_set p.2.cells.toList q.1 0 cs c2 (by simpa using h2)
    obtain ⟨qo, qs⟩ := q
    simp only at h3 h4 h5
    simp only [Instr.fill, hq]
    have h6 : p.2.cells.size = qs := by rw [← h3]; simp
    rw [if_neg (by simp only [h6, ne_eq, not_true_eq_false, decide_false, Bool.false_or, decide_eq_true_eq, gt_iff_lt, List.size_toArray, Nat.not_lt]; simp at h4; omega)]
    have h7 : p.2.cells.zipIdx.foldl (fun (cs : Array Value) (x : Value × Nat) => cs.setIfInBounds (qo + x.2) x.1) cs.toArray = c2.toArray := by
     rw [← h5, ← Array.foldl_toList]
     congr 1
     simp
    rw [← ih, ← h7]
   ·cases h
  ·cases h
section
variable {P : Program} {ro : Option Nat} {n N : Nat} {ds : List Deferred} {w0 : World} {X : Nat → Prop} {Q : Exit → Act → World → Prop} {ops : List Oper} {σ : Slots} {η : Hp} {rest : List Oper}
variable {d : Option Tmp} {ty : TypeId} {pos : String} {aft : Array Edge} {g : Option (Nat × Bool)}
theorem WOK.owns {w : World} {e : TypeId} {sz m : Nat} {r : RowR} {xs : List Value} {η0 : Hp} (h : WOK w0 X (hpR e sz r m xs ++ η0) w) (hx : xs.length = m * sz) (h0 : r = none → m = 0) : w.ownsRow 0 e sz (valR r m) m xs := by
 refine ⟨hx, ?_⟩
 cases r with
 | none => exact .inl ⟨rfl, h0 rfl⟩
 | some p =>
  obtain ⟨o, h1, cur, rfl, h2, h3, h4, h5⟩ := h.bl (p.1, true, orow e sz m p.2 xs) (List.mem_append_left _ (List.mem_cons_self ..))
  exact .inr ⟨p.1, p.2, cur, rfl, Nat.zero_le _, h1, h2, h3, h4, h5⟩
theorem xo_app (T : TysR P) {t e : TypeId} {s x : Operand} {z : Value} {sz by_ m : Nat} {r : RowR} {xs news : List Value} {b : Nat} {wr : Bool} {η0 : Hp} (hg : gS ops σ g = some true) (ht : look t T.el = some e) (hi : look e T.inf = some (z, sz, by_)) (hzs : z.cells.toList.length = sz) (hsz : Nat.blt 0 sz = true)
  (hs : ev σ s = some (valR r m)) (hx : ev σ x = some (.slice (some ⟨b, 0, none⟩) 1 1)) (hη : η = (b, wr, cel news e) :: (hpR e sz r m xs ++ η0)) (hl : xs.length = m * sz) (hn : news.length = sz) (h1 : news.all (·.oneCell') = true) (h0 : r = none → m = 0)
  (hb : (m + 1) * by_ ≤ 140737488355328) (hb0 : Nat.blt 0 by_ = true) (hN : dstOK N d = true)
  (h : ∀ r' : RowR, r' ≠ none → XO P ro n N ds w0 X Q ops (putS d (valR r' (m + 1)) σ) (hpR e sz r' (m + 1) (xs ++ news) ++ η0) rest) :
  XO P ro n N ds w0 X Q ops σ η (⟨d, .call { callee := .builtin .append, args := #[s, x], argTypes := #[t, t] }, ty, pos, aft, g⟩ :: rest) := by
 subst hη
 refine xo_base rfl hg fun a w ha hw => ?_
 have hT := T.hel _ (look_mem ht)
 obtain ⟨i, hi1, hi2⟩ := Option.map_eq_some_iff.1 (T.hinf _ (look_mem hi))
 simp only [Prod.mk.injEq] at hi2
 obtain ⟨iz, isz, iby⟩ := hi2
 have hw' := hw.sub (List.sublist_cons_self _ _)
 have hown := hw'.owns hl h0
 have hb1 : 0 < by_ := by simpa [Nat.blt_eq] using hb0
 have hlen : m + 1 ≤ 140737488355328 := Nat.le_trans (Nat.le_mul_of_pos_right _ hb1) hb
 obtain ⟨v', w', hr, own', hgr, hnil, hat⟩ := run_append_own_at (P := P) w 0 t ty e i z sz by_ hT hi1 iz isz iby (by simpa using hzs) (by simpa [Nat.blt_eq] using hsz) (valR r m) m xs hown ⟨b, 0, none⟩ 1 1 news (by omega)
  (fun j u hj => by rw [Addr.add_lit, Nat.zero_add]; exact hw.cell (List.mem_cons_self ..) j hj) (by simpa using h1) (by simp only [maxLen]; omega) hb (Nat.zero_le _)
 obtain ⟨h2, h3⟩ := own'
 rcases h3 with ⟨_, h3⟩ | ⟨g', cap', cur, rfl, _, h4, h5, h6, h7, h8⟩
 ·exact absurd h3 (by omega)
 refine ⟨.value (.slice (some ⟨g', 0, none⟩) (m + 1) cap'), w', _, ?_, .inl rfl, h (some (g', cap')) (by simp) _ _ (ha.put hN _) ?_⟩
 ·simp only [execOp, resolve, invoke, builtin, Sem.run_bind, Sem.run_pure, Result.andThen_ok, List.map_toArray, List.map_cons, List.map_nil, ha.ev hs, ha.ev hx, hr]
 ·have hη0 := hw'.sub (List.sublist_append_right (hpR e sz r m xs) η0)
  have hold : ∀ k, k < w.heap.size → (∀ p, r = some p → k ≠ p.1) → w'.heap[k]? = w.heap[k]? := fun k hk hne => hgr.block k hk (fun e' => by
   cases r with
   | none => simp [valR, Value.ownBlock] at e'
   | some p => simp [valR, Value.ownBlock] at e'; exact hne p rfl e')
  have hne0 : ∀ e' ∈ η0, ∀ p, r = some p → e'.1 ≠ p.1 := fun e' he p hp q => by
   subst hp
   have hnd := hw'.nd
   simp only [hpR, List.cons_append, List.nil_append, List.map_cons, List.nodup_cons] at hnd
   exact hnd.1 (List.mem_map.2 ⟨e', he, q⟩)
  have hrow : ∀ p, r = some p → w0.heap.size ≤ p.1 ∨ X p.1 := fun p hp => by
   subst hp
   exact hw'.ow (p.1, true, orow e sz m p.2 xs) (List.mem_append_left _ (List.mem_cons_self ..)) rfl
  have hg' : (∃ p, r = some p ∧ g' = p.1) ∨ g' = w.heap.size := by
   rcases hat with hat | hat
   ·left
    cases r with
    | none => simp [valR, Value.ownBlock] at hat
    | some p => simp [valR, Value.ownBlock] at hat; exact ⟨p, rfl, hat⟩
   ·right
    simpa [Value.ownBlock] using hat
  refine ⟨⟨hgr.os.trans hη0.kx.os, hgr.tape.trans hη0.kx.tape, hgr.output.trans hη0.kx.output, Nat.le_trans hη0.kx.size hgr.size, fun k hk hx => ?_⟩, ?_, ?_, ?_⟩
  ·refine (hold k (Nat.lt_of_lt_of_le hk hη0.kx.size) (fun p hp q => ?_)).trans (hη0.kx.block k hk hx)
   subst q
   rcases hrow p hp with h9 | h9
   ·exact absurd hk (Nat.not_lt.2 h9)
   ·exact hx h9
  ·intro e' he
   rcases List.mem_append.1 he with he | he
   ·simp only [hpR, List.mem_singleton] at he
    subst he
    exact ⟨_, h4, cur, rfl, h5, h6, h7, h8⟩
   ·obtain ⟨o, h9, h10⟩ := hη0.bl e' he
    exact ⟨o, (hold _ (hη0.lt he) (hne0 e' he)).trans h9, h10⟩
  ·simp only [hpR, List.cons_append, List.nil_append, List.map_cons, List.nodup_cons]
   refine ⟨fun hm => ?_, hη0.nd⟩
   obtain ⟨e', he, q⟩ := List.mem_map.1 hm
   rcases hg' with ⟨p, hp, hg'⟩ | hg'
   ·exact hne0 e' he p hp (q.trans hg')
   ·have := hη0.lt he
    omega
  ·intro e' he hwr
   rcases List.mem_append.1 he with he | he
   ·simp only [hpR, List.mem_singleton] at he
    subst he
    rcases hg' with ⟨p, hp, hg'⟩ | hg'
    ·rw [show g' = p.1 from hg']; exact hrow p hp
    ·exact .inl (by rw [show g' = _ from hg']; exact hη0.kx.size)
   ·exact hη0.ow e' he hwr
theorem xo_build (T : TysB P) {t : TypeId} {parts : List (Nat × Operand)} {pl : List (Nat × Nat)} {z : Array Value} {ps : List (Nat × Value)} {cs : List Value} (hg : gS ops σ g = some true) (ht : look t T.bl = some (pl, z)) (hp : evp σ parts = some ps) (hc : fillL pl z.toList ps = some cs) (hN : dstOK N d = true)
  (h : XO P ro n N ds w0 X Q ops (putS d (.agg cs.toArray) σ) η rest) : XO P ro n N ds w0 X Q ops σ η (⟨d, .build t parts.toArray, ty, pos, aft, g⟩ :: rest) :=
 xo_val _ rfl hg hN (fun a w ha hw => by
  have h1 := fillL_eq pl ps z.toList cs hc
  simp only [Array.toArray_toList] at h1
  have h2 := T.hbl _ (look_mem ht) ps.toArray cs.toArray w (by simpa using h1)
  have h3 := ha.evp hp
  simp only [execOp, List.map_toArray, Sem.run_bind]
  rw [show (parts.map fun (i, x) => (i, a.eval x)) = ps from h3, h2]
  rfl) h
theorem xo_mks (T : TysR P) {t e : TypeId} {x y : Operand} {z : Value} {by_ m : Nat} (hg : gS ops σ g = some true) (ht : look t T.el = some e) (hi : look e T.inf = some (z, 1, by_)) (hzc : z.cells = #[z]) (hx : ev σ x = some (.int .i64 (m : Int))) (hy : ev σ y = some (.int .i64 (m : Int))) (hb : by_ * m ≤ 281474976710656) (hm : m ≤ 9223372036854775807) (hN : dstOK N d = true)
  (h : ∀ b, XO P ro n N ds w0 X Q ops (putS d (.slice (some ⟨b, 0, none⟩) m m) σ) ((b, true, cel (List.replicate m z) e) :: η) rest) : XO P ro n N ds w0 X Q ops σ η (⟨d, .makeSlice t x y, ty, pos, aft, g⟩ :: rest) :=
 xo_base rfl hg fun a w ha hw => by
  have hr := run_make_row' (P := P) t e z by_ (T.hel _ (look_mem ht)) (T.hinf _ (look_mem hi)) hzc .i64 .i64 m hb hm w
  refine ⟨_, w.alloc (.cells (madeCells #[z] m) e), .slice (some ⟨w.heap.size, 0, none⟩) m m, ?_, .inl rfl, h _ _ _ (ha.put hN _) (hw.alloc _ _ ?_)⟩
  ·simp only [execOp, ha.ev hx, ha.ev hy, Sem.run_bind, hr, Result.andThen_ok]
   rfl
  ·show Obj.cells _ _ _ = _
   congr 1
   apply Array.ext'
   apply List.ext_getElem
   ·simp [madeCells]
   ·intro i h1 h2
    simp [madeCells, Nat.mod_one]
theorem xo_loadI (T : Tys P) {t : TypeId} {x : Operand} {b o k : Nat} {wr : Bool} {cs : List Value} {te : TypeId} {v : Value} (hg : gS ops σ g = some true) (ht : look t T.tk = some 0) (hx : ev σ x = some (.pointer (some (Addr.add ⟨b, o, none⟩ k)))) (hm : (b, wr, cel cs te) ∈ η) (hv : cs[o + k]? = some v) (hN : dstOK N d = true)
  (h : XO P ro n N ds w0 X Q ops (putS d v σ) η rest) : XO P ro n N ds w0 X Q ops σ η (⟨d, .load t x, ty, pos, aft, g⟩ :: rest) :=
 xo_val v rfl hg hN (fun a w ha hw => by
  have h1 := (T.htk _ (look_mem ht)).1 w
  have h2 := hw.cell hm (o + k) hv
  have h3 := ha.ev hx
  rw [Addr.add_lit] at h3
  simp [execOp, h3, Instr.loadAt, Instr.sureAddr, loadVar, h1, h2]) h
theorem xo_storeI (T : Tys P) {t : TypeId} {p x : Operand} {b o k : Nat} {cs : List Value} {te : TypeId} {v : Value} {η' : Hp} (hg : gS ops σ g = some true) (ht : look t T.tk = some 0) (hp : ev σ p = some (.pointer (some (Addr.add ⟨b, o, none⟩ k)))) (hx : ev σ x = some v)
  (hm : (b, true, cel cs te) ∈ η) (hv : v.cells = #[v]) (h1 : v.oneCell' = true) (hlt : o + k < cs.length) (hU : Upd b (cel (cs.set (o + k) v) te) η η') (hN : dstOK N d = true)
  (h : XO P ro n N ds w0 X Q ops (putS d undef σ) η' rest) : XO P ro n N ds w0 X Q ops σ η (⟨d, .store t p x, ty, pos, aft, g⟩ :: rest) :=
 xo_base rfl hg fun a w ha hw => by
  have h2 : (sizeOf t).run P w = .ok 1 w := (T.htk _ (look_mem ht)).2 w
  have hb := hw.obj hm
  have hcell : w.cell? ⟨b, o + k, none⟩ = some (cs[o + k]'hlt) := by
   rw [cell_of_row w b (o + k) _ te _ hb]
   simp [List.getElem?_eq_getElem hlt]
  have hfz : w.frozen? ⟨b, o + k, none⟩ = false := frozen_of_row w b (o + k) _ te hb
  have hst : (store ⟨b, o + k, none⟩ v .plain).run P w = .ok () (w.setCell ⟨b, o + k, none⟩ v) := by
   rw [run_store P w _ v _ h1, hcell]
   simp [hfz]
  have hb' : (w.setCell ⟨b, o + k, none⟩ v).heap[b]? = some (.cells (cs.set (o + k) v).toArray te (0, 0)) := by
   rw [heap_setCell_same w b (o + k) _ te v hb]
   simp
  have h3 := ha.ev hp
  rw [Addr.add_lit] at h3
  refine ⟨.skip, _, undef, ?_, .inr ⟨rfl, rfl⟩, h _ _ (ha.put hN _) (hw.upd hU (OneB.setCell w b (o + k) v) hb' rfl)⟩
  simp only [execOp, h3, ha.ev hx, Instr.storeAt, Instr.sureAddr, storeVar, Sem.run_bind, Sem.run_pure, Result.andThen_ok, h2, hv, List.size_toArray, List.length_cons, List.length_nil, ne_eq, not_true_eq_false, ↓reduceIte, storeCells, Addr.add_zero', hst]
theorem xo_loadO (T : Tys P) {t : TypeId} {x : Operand} {b m cap k : Nat} {wr : Bool} {xs : List Value} {te : TypeId} {v : Value} (hg : gS ops σ g = some true) (ht : look t T.tk = some 0) (hx : ev σ x = some (.pointer (some (Addr.add ⟨b, 0, none⟩ k)))) (hm : (b, wr, orow te 1 m cap xs) ∈ η) (hv : xs[k]? = some v) (hN : dstOK N d = true)
  (h : XO P ro n N ds w0 X Q ops (putS d v σ) η rest) : XO P ro n N ds w0 X Q ops σ η (⟨d, .load t x, ty, pos, aft, g⟩ :: rest) :=
 xo_val v rfl hg hN (fun a w ha hw => by
  have h1 := (T.htk _ (look_mem ht)).1 w
  obtain ⟨o, h4, cur, rfl, h5, h6, h7, h8⟩ := hw.bl _ hm
  have h2 : w.cell? ⟨b, k, none⟩ = some v := by
   rw [cell_of_row w b k _ te _ h4, ← Array.getElem?_toList]
   rw [← h8] at hv
   rw [List.getElem?_take] at hv
   split at hv
   ·exact hv
   ·cases hv
  have h3 := ha.ev hx
  rw [Addr.add_lit, Nat.zero_add] at h3
  simp [execOp, h3, Instr.loadAt, Instr.sureAddr, loadVar, h1, h2]) h
end
end Go.Proofs.YtommeljlfkmpjaaDoor
namespace Go.Proofs.YtommeljlfkmpjaaDoor
open Go.RowKit
section
variable {P : Program} {ro : Option Nat} {n N : Nat} {ds : List Deferred} {w0 : World} {X : Nat → Prop} {Q : Exit → Act → World → Prop} {ops : List Oper} {σ : Slots} {η : Hp} {rest : List Oper}
variable {d : Option Tmp} {ty : TypeId} {pos : String} {aft : Array Edge} {g : Option (Nat × Bool)}
theorem xo_storeO (T : Tys P) {t : TypeId} {p x : Operand} {b k m cap : Nat} {xs : List Value} {te : TypeId} {v : Value} {η' : Hp} (hg : gS ops σ g = some true) (ht : look t T.tk = some 0) (hp : ev σ p = some (.pointer (some (Addr.add ⟨b, 0, none⟩ k)))) (hx : ev σ x = some v)
  (hm : (b, true, orow te 1 m cap xs) ∈ η) (hv : v.cells = #[v]) (h1 : v.oneCell' = true) (hlt : k < m) (hU : Upd b (orow te 1 m cap (xs.set k v)) η η') (hN : dstOK N d = true)
  (h : XO P ro n N ds w0 X Q ops (putS d undef σ) η' rest) : XO P ro n N ds w0 X Q ops σ η (⟨d, .store t p x, ty, pos, aft, g⟩ :: rest) :=
 xo_base rfl hg fun a w ha hw => by
  have h2 : (sizeOf t).run P w = .ok 1 w := (T.htk _ (look_mem ht)).2 w
  obtain ⟨o, h4, cur, rfl, h5, h6, h7, h8⟩ := hw.bl _ hm
  have hkc : k < cur.size := by omega
  have hcell : w.cell? ⟨b, k, none⟩ = some (cur[k]'hkc) := by
   rw [cell_of_row w b k _ te _ h4]
   simp [Array.getElem?_eq_getElem hkc]
  have hfz : w.frozen? ⟨b, k, none⟩ = false := frozen_of_row w b k _ te h4
  have hst : (store ⟨b, k, none⟩ v .plain).run P w = .ok () (w.setCell ⟨b, k, none⟩ v) := by
   rw [run_store P w _ v _ h1, hcell]
   simp [hfz]
  have hb' : (w.setCell ⟨b, k, none⟩ v).heap[b]? = some (.cells (cur.setIfInBounds k v) te (0, 0)) := heap_setCell_same w b k _ te v h4
  have h3 := ha.ev hp
  rw [Addr.add_lit, Nat.zero_add] at h3
  refine ⟨.skip, _, undef, ?_, .inr ⟨rfl, rfl⟩, h _ _ (ha.put hN _) (hw.upd hU (OneB.setCell w b k v) hb' ⟨_, rfl, h5, h6, by simpa using h7, ?_⟩)⟩
  ·simp only [execOp, h3, ha.ev hx, Instr.storeAt, Instr.sureAddr, storeVar, Sem.run_bind, Sem.run_pure, Result.andThen_ok, h2, hv, List.size_toArray, List.length_cons, List.length_nil, ne_eq, not_true_eq_false, ↓reduceIte, storeCells, Addr.add_zero', hst]
  ·rw [Array.toList_setIfInBounds, ← h8, List.take_set]
end
end Go.Proofs.YtommeljlfkmpjaaDoor
namespace Go.Proofs.YtommeljlfkmpjaaDoor
open Go.RowKit
def aggD : TypeDesc → Bool
 | .struct _ | .array _ _ => true
 | _ => false
theorem tk_of {P : Program} {t k : Nat} {d : TypeDesc} (hu : P.underlying t = some d) (hd : aggD d = Nat.blt 0 k) (hi : (P.info? t).map (·.size) = some (bif Nat.beq k 0 then 1 else k)) :
  (∀ w, (isAgg (t, k).1).run P w = .ok (Nat.blt 0 (t, k).2) w) ∧ (∀ w, (sizeOf (t, k).1).run P w = .ok (bif Nat.beq (t, k).2 0 then 1 else (t, k).2) w) := by
 refine ⟨fun w => ?_, fun w => ?_⟩
 ·show (isAgg t).run P w = .ok (Nat.blt 0 k) w
  rw [← hd]
  unfold isAgg
  rw [Sem.run_bind, run_underlying hu w]
  cases d <;> rfl
 ·obtain ⟨i, h1, h2⟩ := Option.map_eq_some_iff.1 hi
  show (sizeOf t).run P w = .ok (bif Nat.beq k 0 then 1 else k) w
  rw [← h2]
  simp [sizeOf, typeInfo, h1]
theorem zs_of {P : Program} {t : Nat} {v : Value} (hi : (P.info? t).bind (·.zero) = some v) : ∀ w, (zeroValue (t, v).1).run P w = .ok (t, v).2 w := by
 intro w
 obtain ⟨i, h1, h2⟩ := Option.bind_eq_some_iff.1 hi
 show (zeroValue t).run P w = .ok v w
 simp [zeroValue, typeInfo, h1, h2]
def ty_tk : List (Nat × Nat) := [(1, 0), (2, 0), (3, 0), (4, 0), (5, 0), (6, 0), (7, 4), (8, 4), (9, 0), (10, 0), (11, 0), (12, 0), (13, 2), (14, 2), (15, 0), (16, 0), (17, 0), (18, 1), (19, 1), (21, 0), (22, 0), (23, 0), (24, 4), (25, 4), (26, 0), (27, 0), (28, 0), (29, 0), (31, 0), (33, 0), (34, 0), (36, 0), (38, 0), (40, 0), (42, 0), (43, 0), (44, 0), (45, 0), (46, 0), (47, 0), (48, 0), (49, 0), (50, 0), (51, 0), (52, 0), (53, 0), (54, 2), (55, 2), (56, 4), (57, 4), (58, 0), (59, 7), (60, 7), (61, 0), (62, 0), (64, 0), (65, 0), (66, 0), (67, 0), (68, 0), (69, 0), (70, 0), (71, 0), (72, 0), (73, 0), (74, 0), (75, 0), (76, 0), (77, 0), (78, 0), (79, 0), (80, 0), (81, 0), (82, 6), (83, 6), (84, 0), (85, 0), (86, 0), (87, 0), (88, 0), (89, 0), (90, 0), (91, 2), (92, 2), (93, 14), (94, 0), (95, 0), (96, 0), (97, 0), (98, 0), (99, 0), (100, 6), (101, 6), (102, 36), (103, 0), (104, 0), (105, 0), (106, 0), (107, 0), (108, 0), (109, 0), (110, 0), (111, 0), (112, 0), (113, 0), (114, 0), (115, 0), (116, 0), (117, 0), (119, 0), (120, 0), (121, 0), (122, 0), (123, 0), (124, 0), (125, 0), (126, 0), (127, 0), (128, 0), (129, 0), (130, 0), (131, 0), (132, 0), (133, 0), (135, 0), (136, 0), (137, 0), (139, 0), (140, 0), (141, 0), (142, 0), (143, 0), (144, 0), (145, 0), (146, 0), (147, 0), (148, 0), (149, 0), (150, 0), (151, 0), (152, 0), (153, 0), (154, 0), (155, 0), (156, 0), (157, 0), (158, 0), (159, 0), (160, 0), (161, 0), (162, 4), (163, 4), (167, 0), (168, 0), (169, 0), (170, 0), (171, 0), (172, 0), (173, 0), (174, 11), (175, 11)]
def ty_zs : List (Nat × Value) := [(1, .nilFunc), (2, (.int .i64 0)), (3, (.int .i64 0)), (4, (.bool false)), (5, (.int .u8 0)), (6, (.int .u8 0)), (7, (.agg #[(.int .i64 0), (.int .i64 0), (.bool false), (.int .u8 0)])), (8, (.agg #[(.int .i64 0), (.int .i64 0), (.bool false), (.int .u8 0)])), (9, (.string ⟨#[]⟩)), (10, (.string ⟨#[]⟩)), (11, (.string ⟨#[]⟩)), (12, (.int .u64 0)), (13, (.agg #[(.string ⟨#[]⟩), (.int .u64 0)])), (14, (.agg #[(.string ⟨#[]⟩), (.int .u64 0)])), (15, (.pointer none)), (16, (.pointer none)), (17, (.pointer none)), (18, (.agg #[(.pointer none)])), (19, (.agg #[(.pointer none)])), (21, (.int .i32 0)), (22, (.slice none 0 0)), (23, (.slice none 0 0)), (24, (.agg #[(.int .i64 0), (.slice none 0 0), (.int .i64 0), (.slice none 0 0)])), (25, (.agg #[(.int .i64 0), (.slice none 0 0), (.int .i64 0), (.slice none 0 0)])), (26, .nilFunc), (27, .nilFunc), (28, (.slice none 0 0)), (29, (.int .i64 0)), (31, .nilFunc), (33, .nilFunc), (34, (.slice none 0 0)), (36, .nilFunc), (38, .nilFunc), (40, .nilFunc), (42, .nilFunc), (43, .nilFunc), (44, .nilFunc), (45, .nilFunc), (46, .nilFunc), (47, .nilFunc), (48, .nilFunc), (49, .nilFunc), (50, .nilFunc), (51, .nilFunc), (52, .nilFunc), (53, .nilFunc), (54, (.agg #[(.int .i64 0), (.int .i64 0)])), (55, (.agg #[(.int .i64 0), (.int .i64 0)])), (56, (.agg #[(.int .i64 0), (.int .i64 0), (.int .i64 0), (.int .i64 0)])), (57, (.agg #[(.int .i64 0), (.int .i64 0), (.int .i64 0), (.int .i64 0)])), (58, .nilFunc), (59, (.agg #[(.int .i64 0), (.int .u8 0), (.int .i64 0), (.int .i64 0), (.int .i64 0), (.int .i64 0), (.int .i64 0)])), (60, (.agg #[(.int .i64 0), (.int .u8 0), (.int .i64 0), (.int .i64 0), (.int .i64 0), (.int .i64 0), (.int .i64 0)])), (61, .nilFunc), (62, (.pointer none)), (64, .nilFunc), (65, (.map none)), (66, .nilFunc), (67, .nilFunc), (68, .nilFunc), (69, .nilFunc), (70, .nilFunc), (71, .nilFunc), (72, .nilFunc), (73, .nilFunc), (74, (.slice none 0 0)), (75, .nilFunc), (76, .nilFunc), (77, .nilFunc), (78, .nilFunc), (79, .nilFunc), (80, (.slice none 0 0)), (81, (.slice none 0 0)), (82, (.agg #[(.int .i64 0), (.slice none 0 0), (.int .i64 0), (.slice none 0 0), (.slice none 0 0), (.slice none 0 0)])), (83, (.agg #[(.int .i64 0), (.slice none 0 0), (.int .i64 0), (.slice none 0 0), (.slice none 0 0), (.slice none 0 0)])), (84, .nilFunc), (85, .nilFunc), (86, .nilFunc), (87, .nilFunc), (88, .nilFunc), (89, .nilFunc), (90, .nilFunc), (91, (.agg #[.nilFunc, .nilFunc])), (92, (.agg #[.nilFunc, .nilFunc])), (93, (.agg #[.nilFunc, .nilFunc, .nilFunc, .nilFunc, .nilFunc, .nilFunc, .nilFunc, .nilFunc, .nilFunc, .nilFunc, .nilFunc, .nilFunc, .nilFunc, .nilFunc])), (94, .nilFunc), (95, .nilFunc), (96, .nilFunc), (97, .nilFunc), (98, .nilFunc), (99, .nilFunc), (100, (.agg #[(.int .i64 0), (.int .i64 0), (.int .i64 0), (.int .i64 0), (.int .i64 0), (.int .i64 0)])), (101, (.agg #[(.int .i64 0), (.int .i64 0), (.int .i64 0), (.int .i64 0), (.int .i64 0), (.int .i64 0)])), (102, (.agg #[(.int .i64 0), (.int .i64 0), (.int .i64 0), (.int .i64 0), (.int .i64 0), (.int .i64 0), (.int .i64 0), (.int .i64 0), (.int .i64 0), (.int .i64 0), (.int .i64 0), (.int .i64 0), (.int .i64 0), (.int .i64 0), (.int .i64 0), (.int .i64 0), (.int .i64 0), (.int .i64 0), (.int .i64 0), (.int .i64 0), (.int .i64 0), (.int .i64 0), (.int .i64 0), (.int .i64 0), (.int .i64 0), (.int .i64 0), (.int .i64 0), (.int .i64 0), (.int .i64 0), (.int .i64 0), (.int .i64 0), (.int .i64 0), (.int .i64 0), (.int .i64 0), (.int .i64 0), (.int .i64 0)])), (103, .nilFunc), (104, .nilFunc), (105, .nilFunc), (106, .nilFunc), (107, .nilFunc), (108, .nilFunc), (109, .nilFunc), (110, .nilFunc), (111, (.slice none 0 0)), (112, .nilFunc), (113, .nilFunc), (114, .nilFunc), (115, .nilFunc), (116, .nilFunc), (117, .nilFunc), (119, .nilFunc), (120, .nilFunc), (121, .nilFunc), (122, .nilFunc), (123, (.int .u64 0)), (124, .nilFunc), (125, .nilFunc), (126, .nilFunc), (127, .nilFunc), (128, .nilFunc), (129, .nilFunc), (130, .nilFunc), (131, .nilFunc), (132, .nilFunc), (133, (.int .i64 0)), (135, .nilFunc), (136, .nilFunc), (137, .nilFunc), (139, .nilFunc), (140, .nilFunc), (141, (.int .u32 0)), (142, .nilFunc), (143, (.int .u64 0)), (144, .nilFunc), (145, .nilFunc), (146, .nilFunc), (147, .nilFunc), (148, .nilFunc), (149, .nilFunc), (150, (.int .u64 0)), (151, .nilFunc), (152, .nilFunc), (153, .nilFunc), (154, (.pointer none)), (155, .nilFunc), (156, .nilFunc), (157, .nilFunc), (158, (.pointer none)), (159, .nilFunc), (160, .nilFunc), (161, .nilFunc), (162, (.agg #[(.pointer none), (.pointer none), (.pointer none), (.string ⟨#[]⟩)])), (163, (.agg #[(.pointer none), (.pointer none), (.pointer none), (.string ⟨#[]⟩)])), (167, .nilFunc), (168, (.int .u8 0)), (169, (.int .u8 0)), (170, .nilFunc), (171, (.pointer none)), (172, (.int .i32 0)), (173, (.int .i32 0)), (174, (.agg #[(.int .u64 0), (.int .u64 0), (.int .u32 0), (.int .u8 0), (.int .u8 0), (.int .u8 0), (.int .u8 0), .nilFunc, (.pointer none), (.int .i32 0), (.int .i32 0)])), (175, (.agg #[(.int .u64 0), (.int .u64 0), (.int .u32 0), (.int .u8 0), (.int .u8 0), (.int .u8 0), (.int .u8 0), .nilFunc, (.pointer none), (.int .i32 0), (.int .i32 0)]))]
def ty_fo : List (Nat × List Nat) := [(7, [0, 1, 2, 3]), (8, [0, 1, 2, 3]), (13, [0, 1]), (14, [0, 1]), (18, [0]), (19, [0]), (24, [0, 1, 2, 3]), (25, [0, 1, 2, 3]), (54, [0, 1]), (55, [0, 1]), (56, [0, 1, 2]), (57, [0, 1, 2]), (59, [0, 1, 2, 3, 4, 6]), (60, [0, 1, 2, 3, 4, 6]), (82, [0, 4, 5]), (83, [0, 4, 5]), (91, [0, 1]), (92, [0, 1]), (162, [0, 1, 2, 3]), (163, [0, 1, 2, 3]), (174, [0, 1, 2, 3, 4, 5, 6, 7, 8, 9, 10]), (175, [0, 1, 2, 3, 4, 5, 6, 7, 8, 9, 10])]
def ty_el : List (Nat × Nat) := [(22, 57), (23, 60), (28, 55), (34, 3), (74, 4), (80, 102), (81, 34), (111, 23)]
def ty_ik : List (Nat × IntKind) := [(2, .i64), (3, .i64), (5, .u8), (6, .u8), (12, .u64), (21, .i32), (29, .i64), (123, .u64), (133, .i64), (141, .u32), (143, .u64), (150, .u64), (168, .u8), (169, .u8), (172, .i32), (173, .i32)]
def ty_mp : List (Nat × Nat × Nat) := [(65, 3, 4)]
set_option maxRecDepth 10000 in
theorem ty_htk : ∀ p ∈ ty_tk, (∀ w, (isAgg p.1).run Tryd.prog w = .ok (Nat.blt 0 p.2) w) ∧ (∀ w, (sizeOf p.1).run Tryd.prog w = .ok (bif Nat.beq p.2 0 then 1 else p.2) w) := by
 unfold ty_tk
 simp only [List.mem_cons, List.not_mem_nil, or_false, forall_eq_or_imp, forall_eq]
 exact ⟨tk_of (k := 0) Tryd.underlying1 rfl (by kernel_rfl),
  tk_of (k := 0) Tryd.underlying2 rfl (by kernel_rfl),
  tk_of (k := 0) Tryd.underlying3 rfl (by kernel_rfl),
  tk_of (k := 0) Tryd.underlying4 rfl (by kernel_rfl),
  tk_of (k := 0) Tryd.underlying5 rfl (by kernel_rfl),
  tk_of (k := 0) Tryd.underlying6 rfl (by kernel_rfl),
  tk_of (k := 4) Tryd.underlying7 rfl (by kernel_rfl),
  tk_of (k := 4) Tryd.underlying8 rfl (by kernel_rfl),
  tk_of (k := 0) Tryd.underlying9 rfl (by kernel_rfl),
  tk_of (k := 0) Tryd.underlying10 rfl (by kernel_rfl),
  tk_of (k := 0) Tryd.underlying11 rfl (by kernel_rfl),
  tk_of (k := 0) Tryd.underlying12 rfl (by kernel_rfl),
  tk_of (k := 2) Tryd.underlying13 rfl (by kernel_rfl),
  tk_of (k := 2) Tryd.underlying14 rfl (by kernel_rfl),
  tk_of (k := 0) Tryd.underlying15 rfl (by kernel_rfl),
  tk_of (k := 0) Tryd.underlying16 rfl (by kernel_rfl),
  tk_of (k := 0) Tryd.underlying17 rfl (by kernel_rfl),
  tk_of (k := 1) Tryd.underlying18 rfl (by kernel_rfl),
  tk_of (k := 1) Tryd.underlying19 rfl (by kernel_rfl),
  tk_of (k := 0) Tryd.underlying21 rfl (by kernel_rfl),
  tk_of (k := 0) Tryd.underlying22 rfl (by kernel_rfl),
  tk_of (k := 0) Tryd.underlying23 rfl (by kernel_rfl),
  tk_of (k := 4) Tryd.underlying24 rfl (by kernel_rfl),
  tk_of (k := 4) Tryd.underlying25 rfl (by kernel_rfl),
  tk_of (k := 0) Tryd.underlying26 rfl (by kernel_rfl),
  tk_of (k := 0) Tryd.underlying27 rfl (by kernel_rfl),
  tk_of (k := 0) Tryd.underlying28 rfl (by kernel_rfl),
  tk_of (k := 0) Tryd.underlying29 rfl (by kernel_rfl),
  tk_of (k := 0) Tryd.underlying31 rfl (by kernel_rfl),
  tk_of (k := 0) Tryd.underlying33 rfl (by kernel_rfl),
  tk_of (k := 0) Tryd.underlying34 rfl (by kernel_rfl),
  tk_of (k := 0) Tryd.underlying36 rfl (by kernel_rfl),
  tk_of (k := 0) Tryd.underlying38 rfl (by kernel_rfl),
  tk_of (k := 0) Tryd.underlying40 rfl (by kernel_rfl),
  tk_of (k := 0) Tryd.underlying42 rfl (by kernel_rfl),
  tk_of (k := 0) Tryd.underlying43 rfl (by kernel_rfl),
  tk_of (k := 0) Tryd.underlying44 rfl (by kernel_rfl),
  tk_of (k := 0) Tryd.underlying45 rfl (by kernel_rfl),
  tk_of (k := 0) Tryd.underlying46 rfl (by kernel_rfl),
  tk_of (k := 0) Tryd.underlying47 rfl (by kernel_rfl),
  tk_of (k := 0) Tryd.underlying48 rfl (by kernel_rfl),
  tk_of (k := 0) Tryd.underlying49 rfl (by kernel_rfl),
  tk_of (k := 0) Tryd.underlying50 rfl (by kernel_rfl),
  tk_of (k := 0) Tryd.underlying51 rfl (by kernel_rfl),
  tk_of (k := 0) Tryd.underlying52 rfl (by kernel_rfl),
  tk_of (k := 0) Tryd.underlying53 rfl (by kernel_rfl),
  tk_of (k := 2) Tryd.underlying54 rfl (by kernel_rfl),
  tk_of (k := 2) Tryd.underlying55 rfl (by kernel_rfl),
  tk_of (k := 4) Tryd.underlying56 rfl (by kernel_rfl),
  tk_of (k := 4) Tryd.underlying57 rfl (by kernel_rfl),
  tk_of (k := 0) Tryd.underlying58 rfl (by kernel_rfl),
  tk_of (k := 7) Tryd.underlying59 rfl (by kernel_rfl),
  tk_of (k := 7) Tryd.underlying60 rfl (by kernel_rfl),
  tk_of (k := 0) Tryd.underlying61 rfl (by kernel_rfl),
  tk_of (k := 0) Tryd.underlying62 rfl (by kernel_rfl),
  tk_of (k := 0) Tryd.underlying64 rfl (by kernel_rfl),
  tk_of (k := 0) Tryd.underlying65 rfl (by kernel_rfl),
  tk_of (k := 0) Tryd.underlying66 rfl (by kernel_rfl),
  tk_of (k := 0) Tryd.underlying67 rfl (by kernel_rfl),
  tk_of (k := 0) Tryd.underlying68 rfl (by kernel_rfl),
  tk_of (k := 0) Tryd.underlying69 rfl (by kernel_rfl),
  tk_of (k := 0) Tryd.underlying70 rfl (by kernel_rfl),
  tk_of (k := 0) Tryd.underlying71 rfl (by kernel_rfl),
  tk_of (k := 0) Tryd.underlying72 rfl (by kernel_rfl),
  tk_of (k := 0) Tryd.underlying73 rfl (by kernel_rfl),
  tk_of (k := 0) Tryd.underlying74 rfl (by kernel_rfl),
  tk_of (k := 0) Tryd.underlying75 rfl (by kernel_rfl),
  tk_of (k := 0) Tryd.underlying76 rfl (by kernel_rfl),
  tk_of (k := 0) Tryd.underlying77 rfl (by kernel_rfl),
  tk_of (k := 0) Tryd.underlying78 rfl (by kernel_rfl),
  tk_of (k := 0) Tryd.underlying79 rfl (by kernel_rfl),
  tk_of (k := 0) Tryd.underlying80 rfl (by kernel_rfl),
  tk_of (k := 0) Tryd.underlying81 rfl (by kernel_rfl),
  tk_of (k := 6) Tryd.underlying82 rfl (by kernel_rfl),
  tk_of (k := 6) Tryd.underlying83 rfl (by kernel_rfl),
  tk_of (k := 0) Tryd.underlying84 rfl (by kernel_rfl),
  tk_of (k := 0) Tryd.underlying85 rfl (by kernel_rfl),
  tk_of (k := 0) Tryd.underlying86 rfl (by kernel_rfl),
  tk_of (k := 0) Tryd.underlying87 rfl (by kernel_rfl),
  tk_of (k := 0) Tryd.underlying88 rfl (by kernel_rfl),
  tk_of (k := 0) Tryd.underlying89 rfl (by kernel_rfl),
  tk_of (k := 0) Tryd.underlying90 rfl (by kernel_rfl),
  tk_of (k := 2) Tryd.underlying91 rfl (by kernel_rfl),
  tk_of (k := 2) Tryd.underlying92 rfl (by kernel_rfl),
  tk_of (k := 14) Tryd.underlying93 rfl (by kernel_rfl),
  tk_of (k := 0) Tryd.underlying94 rfl (by kernel_rfl),
  tk_of (k := 0) Tryd.underlying95 rfl (by kernel_rfl),
  tk_of (k := 0) Tryd.underlying96 rfl (by kernel_rfl),
  tk_of (k := 0) Tryd.underlying97 rfl (by kernel_rfl),
  tk_of (k := 0) Tryd.underlying98 rfl (by kernel_rfl),
  tk_of (k := 0) Tryd.underlying99 rfl (by kernel_rfl),
  tk_of (k := 6) Tryd.underlying100 rfl (by kernel_rfl),
  tk_of (k := 6) Tryd.underlying101 rfl (by kernel_rfl),
  tk_of (k := 36) Tryd.underlying102 rfl (by kernel_rfl),
  tk_of (k := 0) Tryd.underlying103 rfl (by kernel_rfl),
  tk_of (k := 0) Tryd.underlying104 rfl (by kernel_rfl),
  tk_of (k := 0) Tryd.underlying105 rfl (by kernel_rfl),
  tk_of (k := 0) Tryd.underlying106 rfl (by kernel_rfl),
  tk_of (k := 0) Tryd.underlying107 rfl (by kernel_rfl),
  tk_of (k := 0) Tryd.underlying108 rfl (by kernel_rfl),
  tk_of (k := 0) Tryd.underlying109 rfl (by kernel_rfl),
  tk_of (k := 0) Tryd.underlying110 rfl (by kernel_rfl),
  tk_of (k := 0) Tryd.underlying111 rfl (by kernel_rfl),
  tk_of (k := 0) Tryd.underlying112 rfl (by kernel_rfl),
  tk_of (k := 0) Tryd.underlying113 rfl (by kernel_rfl),
  tk_of (k := 0) Tryd.underlying114 rfl (by kernel_rfl),
  tk_of (k := 0) Tryd.underlying115 rfl (by kernel_rfl),
  tk_of (k := 0) Tryd.underlying116 rfl (by kernel_rfl),
  tk_of (k := 0) Tryd.underlying117 rfl (by kernel_rfl),
  tk_of (k := 0) Tryd.underlying119 rfl (by kernel_rfl),
  tk_of (k := 0) Tryd.underlying120 rfl (by kernel_rfl),
  tk_of (k := 0) Tryd.underlying121 rfl (by kernel_rfl),
  tk_of (k := 0) Tryd.underlying122 rfl (by kernel_rfl),
  tk_of (k := 0) Tryd.underlying123 rfl (by kernel_rfl),
  tk_of (k := 0) Tryd.underlying124 rfl (by kernel_rfl),
  tk_of (k := 0) Tryd.underlying125 rfl (by kernel_rfl),
  tk_of (k := 0) Tryd.underlying126 rfl (by kernel_rfl),
  tk_of (k := 0) Tryd.underlying127 rfl (by kernel_rfl),
  tk_of (k := 0) Tryd.underlying128 rfl (by kernel_rfl),
  tk_of (k := 0) Tryd.underlying129 rfl (by kernel_rfl),
  tk_of (k := 0) Tryd.underlying130 rfl (by kernel_rfl),
  tk_of (k := 0) Tryd.underlying131 rfl (by kernel_rfl),
  tk_of (k := 0) Tryd.underlying132 rfl (by kernel_rfl),
  tk_of (k := 0) Tryd.underlying133 rfl (by kernel_rfl),
  tk_of (k := 0) Tryd.underlying135 rfl (by kernel_rfl),
  tk_of (k := 0) Tryd.underlying136 rfl (by kernel_rfl),
  tk_of (k := 0) Tryd.underlying137 rfl (by kernel_rfl),
  tk_of (k := 0) Tryd.underlying139 rfl (by kernel_rfl),
  tk_of (k := 0) Tryd.underlying140 rfl (by kernel_rfl),
  tk_of (k := 0) Tryd.underlying141 rfl (by kernel_rfl),
  tk_of (k := 0) Tryd.underlying142 rfl (by kernel_rfl),
  tk_of (k := 0) Tryd.underlying143 rfl (by kernel_rfl),
  tk_of (k := 0) Tryd.underlying144 rfl (by kernel_rfl),
  tk_of (k := 0) Tryd.underlying145 rfl (by kernel_rfl),
  tk_of (k := 0) Tryd.underlying146 rfl (by kernel_rfl),
  tk_of (k := 0) Tryd.underlying147 rfl (by kernel_rfl),
  tk_of (k := 0) Tryd.underlying148 rfl (by kernel_rfl),
  tk_of (k := 0) Tryd.underlying149 rfl (by kernel_rfl),
  tk_of (k := 0) Tryd.underlying150 rfl (by kernel_rfl),
  tk_of (k := 0) Tryd.underlying151 rfl (by kernel_rfl),
  tk_of (k := 0) Tryd.underlying152 rfl (by kernel_rfl),
  tk_of (k := 0) Tryd.underlying153 rfl (by kernel_rfl),
  tk_of (k := 0) Tryd.underlying154 rfl (by kernel_rfl),
  tk_of (k := 0) Tryd.underlying155 rfl (by kernel_rfl),
  tk_of (k := 0) Tryd.underlying156 rfl (by kernel_rfl),
  tk_of (k := 0) Tryd.underlying157 rfl (by kernel_rfl),
  tk_of (k := 0) Tryd.underlying158 rfl (by kernel_rfl),
  tk_of (k := 0) Tryd.underlying159 rfl (by kernel_rfl),
  tk_of (k := 0) Tryd.underlying160 rfl (by kernel_rfl),
  tk_of (k := 0) Tryd.underlying161 rfl (by kernel_rfl),
  tk_of (k := 4) Tryd.underlying162 rfl (by kernel_rfl),
  tk_of (k := 4) Tryd.underlying163 rfl (by kernel_rfl),
  tk_of (k := 0) Tryd.underlying167 rfl (by kernel_rfl),
  tk_of (k := 0) Tryd.underlying168 rfl (by kernel_rfl),
  tk_of (k := 0) Tryd.underlying169 rfl (by kernel_rfl),
  tk_of (k := 0) Tryd.underlying170 rfl (by kernel_rfl),
  tk_of (k := 0) Tryd.underlying171 rfl (by kernel_rfl),
  tk_of (k := 0) Tryd.underlying172 rfl (by kernel_rfl),
  tk_of (k := 0) Tryd.underlying173 rfl (by kernel_rfl),
  tk_of (k := 11) Tryd.underlying174 rfl (by kernel_rfl),
  tk_of (k := 11) Tryd.underlying175 rfl (by kernel_rfl)⟩
set_option maxRecDepth 10000 in
theorem ty_hzs : ∀ p ∈ ty_zs, ∀ w, (zeroValue p.1).run Tryd.prog w = .ok p.2 w := by
 unfold ty_zs
 simp only [List.mem_cons, List.not_mem_nil, or_false, forall_eq_or_imp, forall_eq]
 exact ⟨zs_of (t := 1) (v := .nilFunc) (by kernel_rfl),
  zs_of (t := 2) (v := (.int .i64 0)) (by kernel_rfl),
  zs_of (t := 3) (v := (.int .i64 0)) (by kernel_rfl),
  zs_of (t := 4) (v := (.bool false)) (by kernel_rfl),
  zs_of (t := 5) (v := (.int .u8 0)) (by kernel_rfl),
  zs_of (t := 6) (v := (.int .u8 0)) (by kernel_rfl),
  zs_of (t := 7) (v := (.agg #[(.int .i64 0), (.int .i64 0), (.bool false), (.int .u8 0)])) (by kernel_rfl),
  zs_of (t := 8) (v := (.agg #[(.int .i64 0), (.int .i64 0), (.bool false), (.int .u8 0)])) (by kernel_rfl),
  zs_of (t := 9) (v := (.string ⟨#[]⟩)) (by kernel_rfl),
  zs_of (t := 10) (v := (.string ⟨#[]⟩)) (by kernel_rfl),
  zs_of (t := 11) (v := (.string ⟨#[]⟩)) (by kernel_rfl),
  zs_of (t := 12) (v := (.int .u64 0)) (by kernel_rfl),
  zs_of (t := 13) (v := (.agg #[(.string ⟨#[]⟩), (.int .u64 0)])) (by kernel_rfl),
  zs_of (t := 14) (v := (.agg #[(.string ⟨#[]⟩), (.int .u64 0)])) (by kernel_rfl),
  zs_of (t := 15) (v := (.pointer none)) (by kernel_rfl),
  zs_of (t := 16) (v := (.pointer none)) (by kernel_rfl),
  zs_of (t := 17) (v := (.pointer none)) (by kernel_rfl),
  zs_of (t := 18) (v := (.agg #[(.pointer none)])) (by kernel_rfl),
  zs_of (t := 19) (v := (.agg #[(.pointer none)])) (by kernel_rfl),
  zs_of (t := 21) (v := (.int .i32 0)) (by kernel_rfl),
  zs_of (t := 22) (v := (.slice none 0 0)) (by kernel_rfl),
  zs_of (t := 23) (v := (.slice none 0 0)) (by kernel_rfl),
  zs_of (t := 24) (v := (.agg #[(.int .i64 0), (.slice none 0 0), (.int .i64 0), (.slice none 0 0)])) (by kernel_rfl),
  zs_of (t := 25) (v := (.agg #[(.int .i64 0), (.slice none 0 0), (.int .i64 0), (.slice none 0 0)])) (by kernel_rfl),
  zs_of (t := 26) (v := .nilFunc) (by kernel_rfl),
  zs_of (t := 27) (v := .nilFunc) (by kernel_rfl),
  zs_of (t := 28) (v := (.slice none 0 0)) (by kernel_rfl),
  zs_of (t := 29) (v := (.int .i64 0)) (by kernel_rfl),
  zs_of (t := 31) (v := .nilFunc) (by kernel_rfl),
  zs_of (t := 33) (v := .nilFunc) (by kernel_rfl),
  zs_of (t := 34) (v := (.slice none 0 0)) (by kernel_rfl),
  zs_of (t := 36) (v := .nilFunc) (by kernel_rfl),
  zs_of (t := 38) (v := .nilFunc) (by kernel_rfl),
  zs_of (t := 40) (v := .nilFunc) (by kernel_rfl),
  zs_of (t := 42) (v := .nilFunc) (by kernel_rfl),
  zs_of (t := 43) (v := .nilFunc) (by kernel_rfl),
  zs_of (t := 44) (v := .nilFunc) (by kernel_rfl),
  zs_of (t := 45) (v := .nilFunc) (by kernel_rfl),
  zs_of (t := 46) (v := .nilFunc) (by kernel_rfl),
  zs_of (t := 47) (v := .nilFunc) (by kernel_rfl),
  zs_of (t := 48) (v := .nilFunc) (by kernel_rfl),
  zs_of (t := 49) (v := .nilFunc) (by kernel_rfl),
  zs_of (t := 50) (v := .nilFunc) (by kernel_rfl),
  zs_of (t := 51) (v := .nilFunc) (by kernel_rfl),
  zs_of (t := 52) (v := .nilFunc) (by kernel_rfl),
  zs_of (t := 53) (v := .nilFunc) (by kernel_rfl),
  zs_of (t := 54) (v := (.agg #[(.int .i64 0), (.int .i64 0)])) (by kernel_rfl),
  zs_of (t := 55) (v := (.agg #[(.int .i64 0), (.int .i64 0)])) (by kernel_rfl),
  zs_of (t := 56) (v := (.agg #[(.int .i64 0), (.int .i64 0), (.int .i64 0), (.int .i64 0)])) (by kernel_rfl),
  zs_of (t := 57) (v := (.agg #[(.int .i64 0), (.int .i64 0), (.int .i64 0), (.int .i64 0)])) (by kernel_rfl),
  zs_of (t := 58) (v := .nilFunc) (by kernel_rfl),
  zs_of (t := 59) (v := (.agg #[(.int .i64 0), (.int .u8 0), (.int .i64 0), (.int .i64 0), (.int .i64 0), (.int .i64 0), (.int .i64 0)])) (by kernel_rfl),
  zs_of (t := 60) (v := (.agg #[(.int .i64 0), (.int .u8 0), (.int .i64 0), (.int .i64 0), (.int .i64 0), (.int .i64 0), (.int .i64 0)])) (by kernel_rfl),
  zs_of (t := 61) (v := .nilFunc) (by kernel_rfl),
  zs_of (t := 62) (v := (.pointer none)) (by kernel_rfl),
  zs_of (t := 64) (v := .nilFunc) (by kernel_rfl),
  zs_of (t := 65) (v := (.map none)) (by kernel_rfl),
  zs_of (t := 66) (v := .nilFunc) (by kernel_rfl),
  zs_of (t := 67) (v := .nilFunc) (by kernel_rfl),
  zs_of (t := 68) (v := .nilFunc) (by kernel_rfl),
  zs_of (t := 69) (v := .nilFunc) (by kernel_rfl),
  zs_of (t := 70) (v := .nilFunc) (by kernel_rfl),
  zs_of (t := 71) (v := .nilFunc) (by kernel_rfl),
  zs_of (t := 72) (v := .nilFunc) (by kernel_rfl),
  zs_of (t := 73) (v := .nilFunc) (by kernel_rfl),
  zs_of (t := 74) (v := (.slice none 0 0)) (by kernel_rfl),
  zs_of (t := 75) (v := .nilFunc) (by kernel_rfl),
  zs_of (t := 76) (v := .nilFunc) (by kernel_rfl),
  zs_of (t := 77) (v := .nilFunc) (by kernel_rfl),
  zs_of (t := 78) (v := .nilFunc) (by kernel_rfl),
  zs_of (t := 79) (v := .nilFunc) (by kernel_rfl),
  zs_of (t := 80) (v := (.slice none 0 0)) (by kernel_rfl),
  zs_of (t := 81) (v := (.slice none 0 0)) (by kernel_rfl),
  zs_of (t := 82) (v := (.agg #[(.int .i64 0), (.slice none 0 0), (.int .i64 0), (.slice none 0 0), (.slice none 0 0), (.slice none 0 0)])) (by kernel_rfl),
  zs_of (t := 83) (v := (.agg #[(.int .i64 0), (.slice none 0 0), (.int .i64 0), (.slice none 0 0), (.slice none 0 0), (.slice none 0 0)])) (by kernel_rfl),
  zs_of (t := 84) (v := .nilFunc) (by kernel_rfl),
  zs_of (t := 85) (v := .nilFunc) (by kernel_rfl),
  zs_of (t := 86) (v := .nilFunc) (by kernel_rfl),
  zs_of (t := 87) (v := .nilFunc) (by kernel_rfl),
  zs_of (t := 88) (v := .nilFunc) (by kernel_rfl),
  zs_of (t := 89) (v := .nilFunc) (by kernel_rfl),
  zs_of (t := 90) (v := .nilFunc) (by kernel_rfl),
  zs_of (t := 91) (v := (.agg #[.nilFunc, .nilFunc])) (by kernel_rfl),
  zs_of (t := 92) (v := (.agg #[.nilFunc, .nilFunc])) (by kernel_rfl),
  zs_of (t := 93) (v := (.agg #[.nilFunc, .nilFunc, .nilFunc, .nilFunc, .nilFunc, .nilFunc, .nilFunc, .nilFunc, .nilFunc, .nilFunc, .nilFunc, .nilFunc, .nilFunc, .nilFunc])) (by kernel_rfl),
  zs_of (t := 94) (v := .nilFunc) (by kernel_rfl),
  zs_of (t := 95) (v := .nilFunc) (by kernel_rfl),
  zs_of (t := 96) (v := .nilFunc) (by kernel_rfl),
  zs_of (t := 97) (v := .nilFunc) (by kernel_rfl),
  zs_of (t := 98) (v := .nilFunc) (by kernel_rfl),
  zs_of (t := 99) (v := .nilFunc) (by kernel_rfl),
  zs_of (t := 100) (v := (.agg #[(.int .i64 0), (.int .i64 0), (.int .i64 0), (.int .i64 0), (.int .i64 0), (.int .i64 0)])) (by kernel_rfl),
  zs_of (t := 101) (v := (.agg #[(.int .i64 0), (.int .i64 0), (.int .i64 0), (.int .i64 0), (.int .i64 0), (.int .i64 0)])) (by kernel_rfl),
  zs_of (t := 102) (v := (.agg #[(.int .i64 0), (.int .i64 0), (.int .i64 0), (.int .i64 0), (.int .i64 0), (.int .i64 0), (.int .i64 0), (.int .i64 0), (.int .i64 0), (.int .i64 0), (.int .i64 0), (.int .i64 0), (.int .i64 0), (.int .i64 0), (.int .i64 0), (.int .i64 0), (.int .i64 0), (.int .i64 0), (.int .i64 0), (.int .i64 0), (.int .i64 0), (.int .i64 0), (.int .i64 0), (.int .i64 0), (.int .i64 0), (.int .i64 0), (.int .i64 0), (.int .i64 0), (.int .i64 0), (.int .i64 0), (.int .i64 0), (.int .i64 0), (.int .i64 0), (.int .i64 0), (.int .i64 0), (.int .i64 0)])) (by kernel_rfl),
  zs_of (t := 103) (v := .nilFunc) (by kernel_rfl),
  zs_of (t := 104) (v := .nilFunc) (by kernel_rfl),
  zs_of (t := 105) (v := .nilFunc) (by kernel_rfl),
  zs_of (t := 106) (v := .nilFunc) (by kernel_rfl),
  zs_of (t := 107) (v := .nilFunc) (by kernel_rfl),
  zs_of (t := 108) (v := .nilFunc) (by kernel_rfl),
  zs_of (t := 109) (v := .nilFunc) (by kernel_rfl),
  zs_of (t := 110) (v := .nilFunc) (by kernel_rfl),
  zs_of (t := 111) (v := (.slice none 0 0)) (by kernel_rfl),
  zs_of (t := 112) (v := .nilFunc) (by kernel_rfl),
  zs_of (t := 113) (v := .nilFunc) (by kernel_rfl),
  zs_of (t := 114) (v := .nilFunc) (by kernel_rfl),
  zs_of (t := 115) (v := .nilFunc) (by kernel_rfl),
  zs_of (t := 116) (v := .nilFunc) (by kernel_rfl),
  zs_of (t := 117) (v := .nilFunc) (by kernel_rfl),
  zs_of (t := 119) (v := .nilFunc) (by kernel_rfl),
  zs_of (t := 120) (v := .nilFunc) (by kernel_rfl),
  zs_of (t := 121) (v := .nilFunc) (by kernel_rfl),
  zs_of (t := 122) (v := .nilFunc) (by kernel_rfl),
  zs_of (t := 123) (v := (.int .u64 0)) (by kernel_rfl),
  zs_of (t := 124) (v := .nilFunc) (by kernel_rfl),
  zs_of (t := 125) (v := .nilFunc) (by kernel_rfl),
  zs_of (t := 126) (v := .nilFunc) (by kernel_rfl),
  zs_of (t := 127) (v := .nilFunc) (by kernel_rfl),
  zs_of (t := 128) (v := .nilFunc) (by kernel_rfl),
  zs_of (t := 129) (v := .nilFunc) (by kernel_rfl),
  zs_of (t := 130) (v := .nilFunc) (by kernel_rfl),
  zs_of (t := 131) (v := .nilFunc) (by kernel_rfl),
  zs_of (t := 132) (v := .nilFunc) (by kernel_rfl),
  zs_of (t := 133) (v := (.int .i64 0)) (by kernel_rfl),
  zs_of (t := 135) (v := .nilFunc) (by kernel_rfl),
  zs_of (t := 136) (v := .nilFunc) (by kernel_rfl),
  zs_of (t := 137) (v := .nilFunc) (by kernel_rfl),
  zs_of (t := 139) (v := .nilFunc) (by kernel_rfl),
  zs_of (t := 140) (v := .nilFunc) (by kernel_rfl),
  zs_of (t := 141) (v := (.int .u32 0)) (by kernel_rfl),
  zs_of (t := 142) (v := .nilFunc) (by kernel_rfl),
  zs_of (t := 143) (v := (.int .u64 0)) (by kernel_rfl),
  zs_of (t := 144) (v := .nilFunc) (by kernel_rfl),
  zs_of (t := 145) (v := .nilFunc) (by kernel_rfl),
  zs_of (t := 146) (v := .nilFunc) (by kernel_rfl),
  zs_of (t := 147) (v := .nilFunc) (by kernel_rfl),
  zs_of (t := 148) (v := .nilFunc) (by kernel_rfl),
  zs_of (t := 149) (v := .nilFunc) (by kernel_rfl),
  zs_of (t := 150) (v := (.int .u64 0)) (by kernel_rfl),
  zs_of (t := 151) (v := .nilFunc) (by kernel_rfl),
  zs_of (t := 152) (v := .nilFunc) (by kernel_rfl),
  zs_of (t := 153) (v := .nilFunc) (by kernel_rfl),
  zs_of (t := 154) (v := (.pointer none)) (by kernel_rfl),
  zs_of (t := 155) (v := .nilFunc) (by kernel_rfl),
  zs_of (t := 156) (v := .nilFunc) (by kernel_rfl),
  zs_of (t := 157) (v := .nilFunc) (by kernel_rfl),
  zs_of (t := 158) (v := (.pointer none)) (by kernel_rfl),
  zs_of (t := 159) (v := .nilFunc) (by kernel_rfl),
  zs_of (t := 160) (v := .nilFunc) (by kernel_rfl),
  zs_of (t := 161) (v := .nilFunc) (by kernel_rfl),
  zs_of (t := 162) (v := (.agg #[(.pointer none), (.pointer none), (.pointer none), (.string ⟨#[]⟩)])) (by kernel_rfl),
  zs_of (t := 163) (v := (.agg #[(.pointer none), (.pointer none), (.pointer none), (.string ⟨#[]⟩)])) (by kernel_rfl),
  zs_of (t := 167) (v := .nilFunc) (by kernel_rfl),
  zs_of (t := 168) (v := (.int .u8 0)) (by kernel_rfl),
  zs_of (t := 169) (v := (.int .u8 0)) (by kernel_rfl),
  zs_of (t := 170) (v := .nilFunc) (by kernel_rfl),
  zs_of (t := 171) (v := (.pointer none)) (by kernel_rfl),
  zs_of (t := 172) (v := (.int .i32 0)) (by kernel_rfl),
  zs_of (t := 173) (v := (.int .i32 0)) (by kernel_rfl),
  zs_of (t := 174) (v := (.agg #[(.int .u64 0), (.int .u64 0), (.int .u32 0), (.int .u8 0), (.int .u8 0), (.int .u8 0), (.int .u8 0), .nilFunc, (.pointer none), (.int .i32 0), (.int .i32 0)])) (by kernel_rfl),
  zs_of (t := 175) (v := (.agg #[(.int .u64 0), (.int .u64 0), (.int .u32 0), (.int .u8 0), (.int .u8 0), (.int .u8 0), (.int .u8 0), .nilFunc, (.pointer none), (.int .i32 0), (.int .i32 0)])) (by kernel_rfl)⟩
theorem ty_fo7 : ∀ f off, ([0, 1, 2, 3] : List Nat)[f]? = some off → ∀ a w, (Instr.fieldAt 7 (.pointer (some a)) f).run Tryd.prog w = .ok (.pointer (some (a.add off))) w := by
 intro f off h a w
 rcases f with _ | _ | _ | _ | f <;> simp at h <;> subst h <;> go_simp
theorem ty_fo8 : ∀ f off, ([0, 1, 2, 3] : List Nat)[f]? = some off → ∀ a w, (Instr.fieldAt 8 (.pointer (some a)) f).run Tryd.prog w = .ok (.pointer (some (a.add off))) w := by
 intro f off h a w
 rcases f with _ | _ | _ | _ | f <;> simp at h <;> subst h <;> go_simp
theorem ty_fo13 : ∀ f off, ([0, 1] : List Nat)[f]? = some off → ∀ a w, (Instr.fieldAt 13 (.pointer (some a)) f).run Tryd.prog w = .ok (.pointer (some (a.add off))) w := by
 intro f off h a w
 rcases f with _ | _ | f <;> simp at h <;> subst h <;> go_simp
theorem ty_fo14 : ∀ f off, ([0, 1] : List Nat)[f]? = some off → ∀ a w, (Instr.fieldAt 14 (.pointer (some a)) f).run Tryd.prog w = .ok (.pointer (some (a.add off))) w := by
 intro f off h a w
 rcases f with _ | _ | f <;> simp at h <;> subst h <;> go_simp
theorem ty_fo18 : ∀ f off, ([0] : List Nat)[f]? = some off → ∀ a w, (Instr.fieldAt 18 (.pointer (some a)) f).run Tryd.prog w = .ok (.pointer (some (a.add off))) w := by
 intro f off h a w
 rcases f with _ | f <;> simp at h <;> subst h <;> go_simp
theorem ty_fo19 : ∀ f off, ([0] : List Nat)[f]? = some off → ∀ a w, (Instr.fieldAt 19 (.pointer (some a)) f).run Tryd.prog w = .ok (.pointer (some (a.add off))) w := by
 intro f off h a w
 rcases f with _ | f <;> simp at h <;> subst h <;> go_simp
theorem ty_fo24 : ∀ f off, ([0, 1, 2, 3] : List Nat)[f]? = some off → ∀ a w, (Instr.fieldAt 24 (.pointer (some a)) f).run Tryd.prog w = .ok (.pointer (some (a.add off))) w := by
 intro f off h a w
 rcases f with _ | _ | _ | _ | f <;> simp at h <;> subst h <;> go_simp
theorem ty_fo25 : ∀ f off, ([0, 1, 2, 3] : List Nat)[f]? = some off → ∀ a w, (Instr.fieldAt 25 (.pointer (some a)) f).run Tryd.prog w = .ok (.pointer (some (a.add off))) w := by
 intro f off h a w
 rcases f with _ | _ | _ | _ | f <;> simp at h <;> subst h <;> go_simp
theorem ty_fo54 : ∀ f off, ([0, 1] : List Nat)[f]? = some off → ∀ a w, (Instr.fieldAt 54 (.pointer (some a)) f).run Tryd.prog w = .ok (.pointer (some (a.add off))) w := by
 intro f off h a w
 rcases f with _ | _ | f <;> simp at h <;> subst h <;> go_simp
theorem ty_fo55 : ∀ f off, ([0, 1] : List Nat)[f]? = some off → ∀ a w, (Instr.fieldAt 55 (.pointer (some a)) f).run Tryd.prog w = .ok (.pointer (some (a.add off))) w := by
 intro f off h a w
 rcases f with _ | _ | f <;> simp at h <;> subst h <;> go_simp
theorem ty_fo56 : ∀ f off, ([0, 1, 2] : List Nat)[f]? = some off → ∀ a w, (Instr.fieldAt 56 (.pointer (some a)) f).run Tryd.prog w = .ok (.pointer (some (a.add off))) w := by
 intro f off h a w
 rcases f with _ | _ | _ | f <;> simp at h <;> subst h <;> go_simp
theorem ty_fo57 : ∀ f off, ([0, 1, 2] : List Nat)[f]? = some off → ∀ a w, (Instr.fieldAt 57 (.pointer (some a)) f).run Tryd.prog w = .ok (.pointer (some (a.add off))) w := by
 intro f off h a w
 rcases f with _ | _ | _ | f <;> simp at h <;> subst h <;> go_simp
theorem ty_fo59 : ∀ f off, ([0, 1, 2, 3, 4, 6] : List Nat)[f]? = some off → ∀ a w, (Instr.fieldAt 59 (.pointer (some a)) f).run Tryd.prog w = .ok (.pointer (some (a.add off))) w := by
 intro f off h a w
 rcases f with _ | _ | _ | _ | _ | _ | f <;> simp at h <;> subst h <;> go_simp
theorem ty_fo60 : ∀ f off, ([0, 1, 2, 3, 4, 6] : List Nat)[f]? = some off → ∀ a w, (Instr.fieldAt 60 (.pointer (some a)) f).run Tryd.prog w = .ok (.pointer (some (a.add off))) w := by
 intro f off h a w
 rcases f with _ | _ | _ | _ | _ | _ | f <;> simp at h <;> subst h <;> go_simp
theorem ty_fo82 : ∀ f off, ([0, 4, 5] : List Nat)[f]? = some off → ∀ a w, (Instr.fieldAt 82 (.pointer (some a)) f).run Tryd.prog w = .ok (.pointer (some (a.add off))) w := by
 intro f off h a w
 rcases f with _ | _ | _ | f <;> simp at h <;> subst h <;> go_simp
theorem ty_fo83 : ∀ f off, ([0, 4, 5] : List Nat)[f]? = some off → ∀ a w, (Instr.fieldAt 83 (.pointer (some a)) f).run Tryd.prog w = .ok (.pointer (some (a.add off))) w := by
 intro f off h a w
 rcases f with _ | _ | _ | f <;> simp at h <;> subst h <;> go_simp
theorem ty_fo91 : ∀ f off, ([0, 1] : List Nat)[f]? = some off → ∀ a w, (Instr.fieldAt 91 (.pointer (some a)) f).run Tryd.prog w = .ok (.pointer (some (a.add off))) w := by
 intro f off h a w
 rcases f with _ | _ | f <;> simp at h <;> subst h <;> go_simp
theorem ty_fo92 : ∀ f off, ([0, 1] : List Nat)[f]? = some off → ∀ a w, (Instr.fieldAt 92 (.pointer (some a)) f).run Tryd.prog w = .ok (.pointer (some (a.add off))) w := by
 intro f off h a w
 rcases f with _ | _ | f <;> simp at h <;> subst h <;> go_simp
theorem ty_fo162 : ∀ f off, ([0, 1, 2, 3] : List Nat)[f]? = some off → ∀ a w, (Instr.fieldAt 162 (.pointer (some a)) f).run Tryd.prog w = .ok (.pointer (some (a.add off))) w := by
 intro f off h a w
 rcases f with _ | _ | _ | _ | f <;> simp at h <;> subst h <;> go_simp
theorem ty_fo163 : ∀ f off, ([0, 1, 2, 3] : List Nat)[f]? = some off → ∀ a w, (Instr.fieldAt 163 (.pointer (some a)) f).run Tryd.prog w = .ok (.pointer (some (a.add off))) w := by
 intro f off h a w
 rcases f with _ | _ | _ | _ | f <;> simp at h <;> subst h <;> go_simp
theorem ty_fo174 : ∀ f off, ([0, 1, 2, 3, 4, 5, 6, 7, 8, 9, 10] : List Nat)[f]? = some off → ∀ a w, (Instr.fieldAt 174 (.pointer (some a)) f).run Tryd.prog w = .ok (.pointer (some (a.add off))) w := by
 intro f off h a w
 rcases f with _ | _ | _ | _ | _ | _ | _ | _ | _ | _ | _ | f <;> simp at h <;> subst h <;> go_simp
theorem ty_fo175 : ∀ f off, ([0, 1, 2, 3, 4, 5, 6, 7, 8, 9, 10] : List Nat)[f]? = some off → ∀ a w, (Instr.fieldAt 175 (.pointer (some a)) f).run Tryd.prog w = .ok (.pointer (some (a.add off))) w := by
 intro f off h a w
 rcases f with _ | _ | _ | _ | _ | _ | _ | _ | _ | _ | _ | f <;> simp at h <;> subst h <;> go_simp
set_option maxRecDepth 10000 in
theorem ty_hfo : ∀ p ∈ ty_fo, ∀ f off, p.2[f]? = some off → ∀ a w, (Instr.fieldAt p.1 (.pointer (some a)) f).run Tryd.prog w = .ok (.pointer (some (a.add off))) w := by
 unfold ty_fo
 simp only [List.mem_cons, List.not_mem_nil, or_false, forall_eq_or_imp, forall_eq]
 exact ⟨ty_fo7,
  ty_fo8,
  ty_fo13,
  ty_fo14,
  ty_fo18,
  ty_fo19,
  ty_fo24,
  ty_fo25,
  ty_fo54,
  ty_fo55,
  ty_fo56,
  ty_fo57,
  ty_fo59,
  ty_fo60,
  ty_fo82,
  ty_fo83,
  ty_fo91,
  ty_fo92,
  ty_fo162,
  ty_fo163,
  ty_fo174,
  ty_fo175⟩
set_option maxRecDepth 10000 in
theorem ty_hel : ∀ p ∈ ty_el, Tryd.prog.underlying p.1 = some (.slice p.2) := by
 unfold ty_el
 simp only [List.mem_cons, List.not_mem_nil, or_false, forall_eq_or_imp, forall_eq]
 exact ⟨Tryd.underlying22,
  Tryd.underlying23,
  Tryd.underlying28,
  Tryd.underlying34,
  Tryd.underlying74,
  Tryd.underlying80,
  Tryd.underlying81,
  Tryd.underlying111⟩
set_option maxRecDepth 10000 in
theorem ty_hik : ∀ p ∈ ty_ik, Tryd.prog.underlying p.1 = some (.int p.2) := by
 unfold ty_ik
 simp only [List.mem_cons, List.not_mem_nil, or_false, forall_eq_or_imp, forall_eq]
 exact ⟨Tryd.underlying2,
  Tryd.underlying3,
  Tryd.underlying5,
  Tryd.underlying6,
  Tryd.underlying12,
  Tryd.underlying21,
  Tryd.underlying29,
  Tryd.underlying123,
  Tryd.underlying133,
  Tryd.underlying141,
  Tryd.underlying143,
  Tryd.underlying150,
  Tryd.underlying168,
  Tryd.underlying169,
  Tryd.underlying172,
  Tryd.underlying173⟩
set_option maxRecDepth 10000 in
theorem ty_hmp : ∀ p ∈ ty_mp, Tryd.prog.underlying p.1 = some (.map p.2.1 p.2.2) := by
 unfold ty_mp
 simp only [List.mem_cons, List.not_mem_nil, or_false, forall_eq_or_imp, forall_eq]
 exact Tryd.underlying65
theorem ty_mixed : Tryd.prog.follows .mixedOrders = true := by kernel_rfl
def ty_inf : List (Nat × Value × Nat × Nat) := [(3, (.int .i64 0), 1, 8), (4, (.bool false), 1, 1), (23, (.slice none 0 0), 1, 24), (34, (.slice none 0 0), 1, 24), (55, (.agg #[(.int .i64 0), (.int .i64 0)]), 2, 16), (57, (.agg #[(.int .i64 0), (.int .i64 0), (.int .i64 0), (.int .i64 0)]), 4, 32), (60, (.agg #[(.int .i64 0), (.int .u8 0), (.int .i64 0), (.int .i64 0), (.int .i64 0), (.int .i64 0), (.int .i64 0)]), 7, 56), (102, (.agg #[(.int .i64 0), (.int .i64 0), (.int .i64 0), (.int .i64 0), (.int .i64 0), (.int .i64 0), (.int .i64 0), (.int .i64 0), (.int .i64 0), (.int .i64 0), (.int .i64 0), (.int .i64 0), (.int .i64 0), (.int .i64 0), (.int .i64 0), (.int .i64 0), (.int .i64 0), (.int .i64 0), (.int .i64 0), (.int .i64 0), (.int .i64 0), (.int .i64 0), (.int .i64 0), (.int .i64 0), (.int .i64 0), (.int .i64 0), (.int .i64 0), (.int .i64 0), (.int .i64 0), (.int .i64 0), (.int .i64 0), (.int .i64 0), (.int .i64 0), (.int .i64 0), (.int .i64 0), (.int .i64 0)]), 36, 288)]
set_option maxRecDepth 10000 in
theorem ty_hinf : ∀ p ∈ ty_inf, (Tryd.prog.info? p.1).map (fun i => (i.zero, i.size, i.bytes)) = some (some p.2.1, p.2.2.1, p.2.2.2) := by
 unfold ty_inf
 simp only [List.mem_cons, List.not_mem_nil, or_false, forall_eq_or_imp, forall_eq]
 exact ⟨(by kernel_rfl),
  (by kernel_rfl),
  (by kernel_rfl),
  (by kernel_rfl),
  (by kernel_rfl),
  (by kernel_rfl),
  (by kernel_rfl),
  (by kernel_rfl)⟩
def T_ : Tys Tryd.prog := ⟨ty_mixed, ty_tk, ty_htk, ty_zs, ty_hzs, ty_fo, ty_hfo, ty_el, ty_hel, ty_ik, ty_hik, ty_mp, ty_hmp⟩
def TR_ : TysR Tryd.prog := { T_ with inf := ty_inf, hinf := ty_hinf }
set_option maxRecDepth 10000 in
theorem ty_bl7 : ∀ (parts : Array (Nat × Value)) (cs : Array Value) (w : World), Instr.fill (fun i => ([(0, 1), (1, 1), (2, 1), (3, 1)] : List (Nat × Nat))[i]?) #[(.int .i64 0), (.int .i64 0), (.bool false), (.int .u8 0)] parts.toList = some cs → (Instr.build 7 parts).run Tryd.prog w = .ok (.agg cs) w := by
 intro parts cs w h
 unfold Instr.build
 have hz : (zeroValue 7).run Tryd.prog w = .ok (.agg #[(.int .i64 0), (.int .i64 0), (.bool false), (.int .u8 0)]) w := ty_hzs (7, .agg #[(.int .i64 0), (.int .i64 0), (.bool false), (.int .u8 0)]) (look_mem (l := ty_zs) rfl) w
 have hu := run_underlying Tryd.underlying7 w
 simp only [Sem.run_bind, hz, hu, Result.andThen_ok, Value.cells]
 simp [Array.mapM_eq_foldlM]
 rw [h]
 rfl
set_option maxRecDepth 10000 in
theorem ty_bl8 : ∀ (parts : Array (Nat × Value)) (cs : Array Value) (w : World), Instr.fill (fun i => ([(0, 1), (1, 1), (2, 1), (3, 1)] : List (Nat × Nat))[i]?) #[(.int .i64 0), (.int .i64 0), (.bool false), (.int .u8 0)] parts.toList = some cs → (Instr.build 8 parts).run Tryd.prog w = .ok (.agg cs) w := by
 intro parts cs w h
 unfold Instr.build
 have hz : (zeroValue 8).run Tryd.prog w = .ok (.agg #[(.int .i64 0), (.int .i64 0), (.bool false), (.int .u8 0)]) w := ty_hzs (8, .agg #[(.int .i64 0), (.int .i64 0), (.bool false), (.int .u8 0)]) (look_mem (l := ty_zs) rfl) w
 have hu := run_underlying Tryd.underlying8 w
 simp only [Sem.run_bind, hz, hu, Result.andThen_ok, Value.cells]
 simp [Array.mapM_eq_foldlM]
 rw [h]
 rfl
set_option maxRecDepth 10000 in
theorem ty_bl13 : ∀ (parts : Array (Nat × Value)) (cs : Array Value) (w : World), Instr.fill (fun i => ([(0, 1), (1, 1)] : List (Nat × Nat))[i]?) #[(.string ⟨#[]⟩), (.int .u64 0)] parts.toList = some cs → (Instr.build 13 parts).run Tryd.prog w = .ok (.agg cs) w := by
 intro parts cs w h
 unfold Instr.build
 have hz : (zeroValue 13).run Tryd.prog w = .ok (.agg #[(.string ⟨#[]⟩), (.int .u64 0)]) w := ty_hzs (13, .agg #[(.string ⟨#[]⟩), (.int .u64 0)]) (look_mem (l := ty_zs) rfl) w
 have hu := run_underlying Tryd.underlying13 w
 simp only [Sem.run_bind, hz, hu, Result.andThen_ok, Value.cells]
 simp [Array.mapM_eq_foldlM]
 rw [h]
 rfl
set_option maxRecDepth 10000 in
theorem ty_bl14 : ∀ (parts : Array (Nat × Value)) (cs : Array Value) (w : World), Instr.fill (fun i => ([(0, 1), (1, 1)] : List (Nat × Nat))[i]?) #[(.string ⟨#[]⟩), (.int .u64 0)] parts.toList = some cs → (Instr.build 14 parts).run Tryd.prog w = .ok (.agg cs) w := by
 intro parts cs w h
 unfold Instr.build
 have hz : (zeroValue 14).run Tryd.prog w = .ok (.agg #[(.string ⟨#[]⟩), (.int .u64 0)]) w := ty_hzs (14, .agg #[(.string ⟨#[]⟩), (.int .u64 0)]) (look_mem (l := ty_zs) rfl) w
 have hu := run_underlying Tryd.underlying14 w
 simp only [Sem.run_bind, hz, hu, Result.andThen_ok, Value.cells]
 simp [Array.mapM_eq_foldlM]
 rw [h]
 rfl
set_option maxRecDepth 10000 in
theorem ty_bl18 : ∀ (parts : Array (Nat × Value)) (cs : Array Value) (w : World), Instr.fill (fun i => ([(0, 1)] : List (Nat × Nat))[i]?) #[(.pointer none)] parts.toList = some cs → (Instr.build 18 parts).run Tryd.prog w = .ok (.agg cs) w := by
 intro parts cs w h
 unfold Instr.build
 have hz : (zeroValue 18).run Tryd.prog w = .ok (.agg #[(.pointer none)]) w := ty_hzs (18, .agg #[(.pointer none)]) (look_mem (l := ty_zs) rfl) w
 have hu := run_underlying Tryd.underlying18 w
 simp only [Sem.run_bind, hz, hu, Result.andThen_ok, Value.cells]
 simp [Array.mapM_eq_foldlM]
 rw [h]
 rfl
set_option maxRecDepth 10000 in
theorem ty_bl19 : ∀ (parts : Array (Nat × Value)) (cs : Array Value) (w : World), Instr.fill (fun i => ([(0, 1)] : List (Nat × Nat))[i]?) #[(.pointer none)] parts.toList = some cs → (Instr.build 19 parts).run Tryd.prog w = .ok (.agg cs) w := by
 intro parts cs w h
 unfold Instr.build
 have hz : (zeroValue 19).run Tryd.prog w = .ok (.agg #[(.pointer none)]) w := ty_hzs (19, .agg #[(.pointer none)]) (look_mem (l := ty_zs) rfl) w
 have hu := run_underlying Tryd.underlying19 w
 simp only [Sem.run_bind, hz, hu, Result.andThen_ok, Value.cells]
 simp [Array.mapM_eq_foldlM]
 rw [h]
 rfl
set_option maxRecDepth 10000 in
theorem ty_bl24 : ∀ (parts : Array (Nat × Value)) (cs : Array Value) (w : World), Instr.fill (fun i => ([(0, 1), (1, 1), (2, 1), (3, 1)] : List (Nat × Nat))[i]?) #[(.int .i64 0), (.slice none 0 0), (.int .i64 0), (.slice none 0 0)] parts.toList = some cs → (Instr.build 24 parts).run Tryd.prog w = .ok (.agg cs) w := by
 intro parts cs w h
 unfold Instr.build
 have hz : (zeroValue 24).run Tryd.prog w = .ok (.agg #[(.int .i64 0), (.slice none 0 0), (.int .i64 0), (.slice none 0 0)]) w := ty_hzs (24, .agg #[(.int .i64 0), (.slice none 0 0), (.int .i64 0), (.slice none 0 0)]) (look_mem (l := ty_zs) rfl) w
 have hu := run_underlying Tryd.underlying24 w
 simp only [Sem.run_bind, hz, hu, Result.andThen_ok, Value.cells]
 simp [Array.mapM_eq_foldlM]
 rw [h]
 rfl
set_option maxRecDepth 10000 in
theorem ty_bl25 : ∀ (parts : Array (Nat × Value)) (cs : Array Value) (w : World), Instr.fill (fun i => ([(0, 1), (1, 1), (2, 1), (3, 1)] : List (Nat × Nat))[i]?) #[(.int .i64 0), (.slice none 0 0), (.int .i64 0), (.slice none 0 0)] parts.toList = some cs → (Instr.build 25 parts).run Tryd.prog w = .ok (.agg cs) w := by
 intro parts cs w h
 unfold Instr.build
 have hz : (zeroValue 25).run Tryd.prog w = .ok (.agg #[(.int .i64 0), (.slice none 0 0), (.int .i64 0), (.slice none 0 0)]) w := ty_hzs (25, .agg #[(.int .i64 0), (.slice none 0 0), (.int .i64 0), (.slice none 0 0)]) (look_mem (l := ty_zs) rfl) w
 have hu := run_underlying Tryd.underlying25 w
 simp only [Sem.run_bind, hz, hu, Result.andThen_ok, Value.cells]
 simp [Array.mapM_eq_foldlM]
 rw [h]
 rfl
set_option maxRecDepth 10000 in
theorem ty_bl54 : ∀ (parts : Array (Nat × Value)) (cs : Array Value) (w : World), Instr.fill (fun i => ([(0, 1), (1, 1)] : List (Nat × Nat))[i]?) #[(.int .i64 0), (.int .i64 0)] parts.toList = some cs → (Instr.build 54 parts).run Tryd.prog w = .ok (.agg cs) w := by
 intro parts cs w h
 unfold Instr.build
 have hz : (zeroValue 54).run Tryd.prog w = .ok (.agg #[(.int .i64 0), (.int .i64 0)]) w := ty_hzs (54, .agg #[(.int .i64 0), (.int .i64 0)]) (look_mem (l := ty_zs) rfl) w
 have hu := run_underlying Tryd.underlying54 w
 simp only [Sem.run_bind, hz, hu, Result.andThen_ok, Value.cells]
 simp [Array.mapM_eq_foldlM]
 rw [h]
 rfl
set_option maxRecDepth 10000 in
theorem ty_bl55 : ∀ (parts : Array (Nat × Value)) (cs : Array Value) (w : World), Instr.fill (fun i => ([(0, 1), (1, 1)] : List (Nat × Nat))[i]?) #[(.int .i64 0), (.int .i64 0)] parts.toList = some cs → (Instr.build 55 parts).run Tryd.prog w = .ok (.agg cs) w := by
 intro parts cs w h
 unfold Instr.build
 have hz : (zeroValue 55).run Tryd.prog w = .ok (.agg #[(.int .i64 0), (.int .i64 0)]) w := ty_hzs (55, .agg #[(.int .i64 0), (.int .i64 0)]) (look_mem (l := ty_zs) rfl) w
 have hu := run_underlying Tryd.underlying55 w
 simp only [Sem.run_bind, hz, hu, Result.andThen_ok, Value.cells]
 simp [Array.mapM_eq_foldlM]
 rw [h]
 rfl
set_option maxRecDepth 10000 in
theorem ty_bl56 : ∀ (parts : Array (Nat × Value)) (cs : Array Value) (w : World), Instr.fill (fun i => ([(0, 1), (1, 1), (2, 2)] : List (Nat × Nat))[i]?) #[(.int .i64 0), (.int .i64 0), (.int .i64 0), (.int .i64 0)] parts.toList = some cs → (Instr.build 56 parts).run Tryd.prog w = .ok (.agg cs) w := by
 intro parts cs w h
 unfold Instr.build
 have hz : (zeroValue 56).run Tryd.prog w = .ok (.agg #[(.int .i64 0), (.int .i64 0), (.int .i64 0), (.int .i64 0)]) w := ty_hzs (56, .agg #[(.int .i64 0), (.int .i64 0), (.int .i64 0), (.int .i64 0)]) (look_mem (l := ty_zs) rfl) w
 have hu := run_underlying Tryd.underlying56 w
 simp only [Sem.run_bind, hz, hu, Result.andThen_ok, Value.cells]
 simp [Array.mapM_eq_foldlM]
 rw [h]
 rfl
set_option maxRecDepth 10000 in
theorem ty_bl57 : ∀ (parts : Array (Nat × Value)) (cs : Array Value) (w : World), Instr.fill (fun i => ([(0, 1), (1, 1), (2, 2)] : List (Nat × Nat))[i]?) #[(.int .i64 0), (.int .i64 0), (.int .i64 0), (.int .i64 0)] parts.toList = some cs → (Instr.build 57 parts).run Tryd.prog w = .ok (.agg cs) w := by
 intro parts cs w h
 unfold Instr.build
 have hz : (zeroValue 57).run Tryd.prog w = .ok (.agg #[(.int .i64 0), (.int .i64 0), (.int .i64 0), (.int .i64 0)]) w := ty_hzs (57, .agg #[(.int .i64 0), (.int .i64 0), (.int .i64 0), (.int .i64 0)]) (look_mem (l := ty_zs) rfl) w
 have hu := run_underlying Tryd.underlying57 w
 simp only [Sem.run_bind, hz, hu, Result.andThen_ok, Value.cells]
 simp [Array.mapM_eq_foldlM]
 rw [h]
 rfl
set_option maxRecDepth 10000 in
theorem ty_bl59 : ∀ (parts : Array (Nat × Value)) (cs : Array Value) (w : World), Instr.fill (fun i => ([(0, 1), (1, 1), (2, 1), (3, 1), (4, 2), (6, 1)] : List (Nat × Nat))[i]?) #[(.int .i64 0), (.int .u8 0), (.int .i64 0), (.int .i64 0), (.int .i64 0), (.int .i64 0), (.int .i64 0)] parts.toList = some cs → (Instr.build 59 parts).run Tryd.prog w = .ok (.agg cs) w := by
 intro parts cs w h
 unfold Instr.build
 have hz : (zeroValue 59).run Tryd.prog w = .ok (.agg #[(.int .i64 0), (.int .u8 0), (.int .i64 0), (.int .i64 0), (.int .i64 0), (.int .i64 0), (.int .i64 0)]) w := ty_hzs (59, .agg #[(.int .i64 0), (.int .u8 0), (.int .i64 0), (.int .i64 0), (.int .i64 0), (.int .i64 0), (.int .i64 0)]) (look_mem (l := ty_zs) rfl) w
 have hu := run_underlying Tryd.underlying59 w
 simp only [Sem.run_bind, hz, hu, Result.andThen_ok, Value.cells]
 simp [Array.mapM_eq_foldlM]
 rw [h]
 rfl
set_option maxRecDepth 10000 in
theorem ty_bl60 : ∀ (parts : Array (Nat × Value)) (cs : Array Value) (w : World), Instr.fill (fun i => ([(0, 1), (1, 1), (2, 1), (3, 1), (4, 2), (6, 1)] : List (Nat × Nat))[i]?) #[(.int .i64 0), (.int .u8 0), (.int .i64 0), (.int .i64 0), (.int .i64 0), (.int .i64 0), (.int .i64 0)] parts.toList = some cs → (Instr.build 60 parts).run Tryd.prog w = .ok (.agg cs) w := by
 intro parts cs w h
 unfold Instr.build
 have hz : (zeroValue 60).run Tryd.prog w = .ok (.agg #[(.int .i64 0), (.int .u8 0), (.int .i64 0), (.int .i64 0), (.int .i64 0), (.int .i64 0), (.int .i64 0)]) w := ty_hzs (60, .agg #[(.int .i64 0), (.int .u8 0), (.int .i64 0), (.int .i64 0), (.int .i64 0), (.int .i64 0), (.int .i64 0)]) (look_mem (l := ty_zs) rfl) w
 have hu := run_underlying Tryd.underlying60 w
 simp only [Sem.run_bind, hz, hu, Result.andThen_ok, Value.cells]
 simp [Array.mapM_eq_foldlM]
 rw [h]
 rfl
set_option maxRecDepth 10000 in
theorem ty_bl82 : ∀ (parts : Array (Nat × Value)) (cs : Array Value) (w : World), Instr.fill (fun i => ([(0, 4), (4, 1), (5, 1)] : List (Nat × Nat))[i]?) #[(.int .i64 0), (.slice none 0 0), (.int .i64 0), (.slice none 0 0), (.slice none 0 0), (.slice none 0 0)] parts.toList = some cs → (Instr.build 82 parts).run Tryd.prog w = .ok (.agg cs) w := by
 intro parts cs w h
 unfold Instr.build
 have hz : (zeroValue 82).run Tryd.prog w = .ok (.agg #[(.int .i64 0), (.slice none 0 0), (.int .i64 0), (.slice none 0 0), (.slice none 0 0), (.slice none 0 0)]) w := ty_hzs (82, .agg #[(.int .i64 0), (.slice none 0 0), (.int .i64 0), (.slice none 0 0), (.slice none 0 0), (.slice none 0 0)]) (look_mem (l := ty_zs) rfl) w
 have hu := run_underlying Tryd.underlying82 w
 simp only [Sem.run_bind, hz, hu, Result.andThen_ok, Value.cells]
 simp [Array.mapM_eq_foldlM]
 rw [h]
 rfl
set_option maxRecDepth 10000 in
theorem ty_bl83 : ∀ (parts : Array (Nat × Value)) (cs : Array Value) (w : World), Instr.fill (fun i => ([(0, 4), (4, 1), (5, 1)] : List (Nat × Nat))[i]?) #[(.int .i64 0), (.slice none 0 0), (.int .i64 0), (.slice none 0 0), (.slice none 0 0), (.slice none 0 0)] parts.toList = some cs → (Instr.build 83 parts).run Tryd.prog w = .ok (.agg cs) w := by
 intro parts cs w h
 unfold Instr.build
 have hz : (zeroValue 83).run Tryd.prog w = .ok (.agg #[(.int .i64 0), (.slice none 0 0), (.int .i64 0), (.slice none 0 0), (.slice none 0 0), (.slice none 0 0)]) w := ty_hzs (83, .agg #[(.int .i64 0), (.slice none 0 0), (.int .i64 0), (.slice none 0 0), (.slice none 0 0), (.slice none 0 0)]) (look_mem (l := ty_zs) rfl) w
 have hu := run_underlying Tryd.underlying83 w
 simp only [Sem.run_bind, hz, hu, Result.andThen_ok, Value.cells]
 simp [Array.mapM_eq_foldlM]
 rw [h]
 rfl
set_option maxRecDepth 10000 in
theorem ty_bl91 : ∀ (parts : Array (Nat × Value)) (cs : Array Value) (w : World), Instr.fill (fun i => ([(0, 1), (1, 1)] : List (Nat × Nat))[i]?) #[.nilFunc, .nilFunc] parts.toList = some cs → (Instr.build 91 parts).run Tryd.prog w = .ok (.agg cs) w := by
 intro parts cs w h
 unfold Instr.build
 have hz : (zeroValue 91).run Tryd.prog w = .ok (.agg #[.nilFunc, .nilFunc]) w := ty_hzs (91, .agg #[.nilFunc, .nilFunc]) (look_mem (l := ty_zs) rfl) w
 have hu := run_underlying Tryd.underlying91 w
 simp only [Sem.run_bind, hz, hu, Result.andThen_ok, Value.cells]
 simp [Array.mapM_eq_foldlM]
 rw [h]
 rfl
set_option maxRecDepth 10000 in
theorem ty_bl92 : ∀ (parts : Array (Nat × Value)) (cs : Array Value) (w : World), Instr.fill (fun i => ([(0, 1), (1, 1)] : List (Nat × Nat))[i]?) #[.nilFunc, .nilFunc] parts.toList = some cs → (Instr.build 92 parts).run Tryd.prog w = .ok (.agg cs) w := by
 intro parts cs w h
 unfold Instr.build
 have hz : (zeroValue 92).run Tryd.prog w = .ok (.agg #[.nilFunc, .nilFunc]) w := ty_hzs (92, .agg #[.nilFunc, .nilFunc]) (look_mem (l := ty_zs) rfl) w
 have hu := run_underlying Tryd.underlying92 w
 simp only [Sem.run_bind, hz, hu, Result.andThen_ok, Value.cells]
 simp [Array.mapM_eq_foldlM]
 rw [h]
 rfl
set_option maxRecDepth 10000 in
theorem ty_bl162 : ∀ (parts : Array (Nat × Value)) (cs : Array Value) (w : World), Instr.fill (fun i => ([(0, 1), (1, 1), (2, 1), (3, 1)] : List (Nat × Nat))[i]?) #[(.pointer none), (.pointer none), (.pointer none), (.string ⟨#[]⟩)] parts.toList = some cs → (Instr.build 162 parts).run Tryd.prog w = .ok (.agg cs) w := by
 intro parts cs w h
 unfold Instr.build
 have hz : (zeroValue 162).run Tryd.prog w = .ok (.agg #[(.pointer none), (.pointer none), (.pointer none), (.string ⟨#[]⟩)]) w := ty_hzs (162, .agg #[(.pointer none), (.pointer none), (.pointer none), (.string ⟨#[]⟩)]) (look_mem (l := ty_zs) rfl) w
 have hu := run_underlying Tryd.underlying162 w
 simp only [Sem.run_bind, hz, hu, Result.andThen_ok, Value.cells]
 simp [Array.mapM_eq_foldlM]
 rw [h]
 rfl
set_option maxRecDepth 10000 in
theorem ty_bl163 : ∀ (parts : Array (Nat × Value)) (cs : Array Value) (w : World), Instr.fill (fun i => ([(0, 1), (1, 1), (2, 1), (3, 1)] : List (Nat × Nat))[i]?) #[(.pointer none), (.pointer none), (.pointer none), (.string ⟨#[]⟩)] parts.toList = some cs → (Instr.build 163 parts).run Tryd.prog w = .ok (.agg cs) w := by
 intro parts cs w h
 unfold Instr.build
 have hz : (zeroValue 163).run Tryd.prog w = .ok (.agg #[(.pointer none), (.pointer none), (.pointer none), (.string ⟨#[]⟩)]) w := ty_hzs (163, .agg #[(.pointer none), (.pointer none), (.pointer none), (.string ⟨#[]⟩)]) (look_mem (l := ty_zs) rfl) w
 have hu := run_underlying Tryd.underlying163 w
 simp only [Sem.run_bind, hz, hu, Result.andThen_ok, Value.cells]
 simp [Array.mapM_eq_foldlM]
 rw [h]
 rfl
set_option maxRecDepth 10000 in
theorem ty_bl174 : ∀ (parts : Array (Nat × Value)) (cs : Array Value) (w : World), Instr.fill (fun i => ([(0, 1), (1, 1), (2, 1), (3, 1), (4, 1), (5, 1), (6, 1), (7, 1), (8, 1), (9, 1), (10, 1)] : List (Nat × Nat))[i]?) #[(.int .u64 0), (.int .u64 0), (.int .u32 0), (.int .u8 0), (.int .u8 0), (.int .u8 0), (.int .u8 0), .nilFunc, (.pointer none), (.int .i32 0), (.int .i32 0)] parts.toList = some cs → (Instr.build 174 parts).run Tryd.prog w = .ok (.agg cs) w := by
 intro parts cs w h
 unfold Instr.build
 have hz : (zeroValue 174).run Tryd.prog w = .ok (.agg #[(.int .u64 0), (.int .u64 0), (.int .u32 0), (.int .u8 0), (.int .u8 0), (.int .u8 0), (.int .u8 0), .nilFunc, (.pointer none), (.int .i32 0), (.int .i32 0)]) w := ty_hzs (174, .agg #[(.int .u64 0), (.int .u64 0), (.int .u32 0), (.int .u8 0), (.int .u8 0), (.int .u8 0), (.int .u8 0), .nilFunc, (.pointer none), (.int .i32 0), (.int .i32 0)]) (look_mem (l := ty_zs) rfl) w
 have hu := run_underlying Tryd.underlying174 w
 simp only [Sem.run_bind, hz, hu, Result.andThen_ok, Value.cells]
 simp [Array.mapM_eq_foldlM]
 rw [h]
 rfl
set_option maxRecDepth 10000 in
theorem ty_bl175 : ∀ (parts : Array (Nat × Value)) (cs : Array Value) (w : World), Instr.fill (fun i => ([(0, 1), (1, 1), (2, 1), (3, 1), (4, 1), (5, 1), (6, 1), (7, 1), (8, 1), (9, 1), (10, 1)] : List (Nat × Nat))[i]?) #[(.int .u64 0), (.int .u64 0), (.int .u32 0), (.int .u8 0), (.int .u8 0), (.int .u8 0), (.int .u8 0), .nilFunc, (.pointer none), (.int .i32 0), (.int .i32 0)] parts.toList = some cs → (Instr.build 175 parts).run Tryd.prog w = .ok (.agg cs) w := by
 intro parts cs w h
 unfold Instr.build
 have hz : (zeroValue 175).run Tryd.prog w = .ok (.agg #[(.int .u64 0), (.int .u64 0), (.int .u32 0), (.int .u8 0), (.int .u8 0), (.int .u8 0), (.int .u8 0), .nilFunc, (.pointer none), (.int .i32 0), (.int .i32 0)]) w := ty_hzs (175, .agg #[(.int .u64 0), (.int .u64 0), (.int .u32 0), (.int .u8 0), (.int .u8 0), (.int .u8 0), (.int .u8 0), .nilFunc, (.pointer none), (.int .i32 0), (.int .i32 0)]) (look_mem (l := ty_zs) rfl) w
 have hu := run_underlying Tryd.underlying175 w
 simp only [Sem.run_bind, hz, hu, Result.andThen_ok, Value.cells]
 simp [Array.mapM_eq_foldlM]
 rw [h]
 rfl
def ty_bl : List (Nat × List (Nat × Nat) × Array Value) := [(7, [(0, 1), (1, 1), (2, 1), (3, 1)], #[(.int .i64 0), (.int .i64 0), (.bool false), (.int .u8 0)]), (8, [(0, 1), (1, 1), (2, 1), (3, 1)], #[(.int .i64 0), (.int .i64 0), (.bool false), (.int .u8 0)]), (13, [(0, 1), (1, 1)], #[(.string ⟨#[]⟩), (.int .u64 0)]), (14, [(0, 1), (1, 1)], #[(.string ⟨#[]⟩), (.int .u64 0)]), (18, [(0, 1)], #[(.pointer none)]), (19, [(0, 1)], #[(.pointer none)]), (24, [(0, 1), (1, 1), (2, 1), (3, 1)], #[(.int .i64 0), (.slice none 0 0), (.int .i64 0), (.slice none 0 0)]), (25, [(0, 1), (1, 1), (2, 1), (3, 1)], #[(.int .i64 0), (.slice none 0 0), (.int .i64 0), (.slice none 0 0)]), (54, [(0, 1), (1, 1)], #[(.int .i64 0), (.int .i64 0)]), (55, [(0, 1), (1, 1)], #[(.int .i64 0), (.int .i64 0)]), (56, [(0, 1), (1, 1), (2, 2)], #[(.int .i64 0), (.int .i64 0), (.int .i64 0), (.int .i64 0)]), (57, [(0, 1), (1, 1), (2, 2)], #[(.int .i64 0), (.int .i64 0), (.int .i64 0), (.int .i64 0)]), (59, [(0, 1), (1, 1), (2, 1), (3, 1), (4, 2), (6, 1)], #[(.int .i64 0), (.int .u8 0), (.int .i64 0), (.int .i64 0), (.int .i64 0), (.int .i64 0), (.int .i64 0)]), (60, [(0, 1), (1, 1), (2, 1), (3, 1), (4, 2), (6, 1)], #[(.int .i64 0), (.int .u8 0), (.int .i64 0), (.int .i64 0), (.int .i64 0), (.int .i64 0), (.int .i64 0)]), (82, [(0, 4), (4, 1), (5, 1)], #[(.int .i64 0), (.slice none 0 0), (.int .i64 0), (.slice none 0 0), (.slice none 0 0), (.slice none 0 0)]), (83, [(0, 4), (4, 1), (5, 1)], #[(.int .i64 0), (.slice none 0 0), (.int .i64 0), (.slice none 0 0), (.slice none 0 0), (.slice none 0 0)]), (91, [(0, 1), (1, 1)], #[.nilFunc, .nilFunc]), (92, [(0, 1), (1, 1)], #[.nilFunc, .nilFunc]), (162, [(0, 1), (1, 1), (2, 1), (3, 1)], #[(.pointer none), (.pointer none), (.pointer none), (.string ⟨#[]⟩)]), (163, [(0, 1), (1, 1), (2, 1), (3, 1)], #[(.pointer none), (.pointer none), (.pointer none), (.string ⟨#[]⟩)]), (174, [(0, 1), (1, 1), (2, 1), (3, 1), (4, 1), (5, 1), (6, 1), (7, 1), (8, 1), (9, 1), (10, 1)], #[(.int .u64 0), (.int .u64 0), (.int .u32 0), (.int .u8 0), (.int .u8 0), (.int .u8 0), (.int .u8 0), .nilFunc, (.pointer none), (.int .i32 0), (.int .i32 0)]), (175, [(0, 1), (1, 1), (2, 1), (3, 1), (4, 1), (5, 1), (6, 1), (7, 1), (8, 1), (9, 1), (10, 1)], #[(.int .u64 0), (.int .u64 0), (.int .u32 0), (.int .u8 0), (.int .u8 0), (.int .u8 0), (.int .u8 0), .nilFunc, (.pointer none), (.int .i32 0), (.int .i32 0)])]
set_option maxRecDepth 10000 in
theorem ty_hbl : ∀ p ∈ ty_bl, ∀ (parts : Array (Nat × Value)) (cs : Array Value) (w : World), Instr.fill (fun i => p.2.1[i]?) p.2.2 parts.toList = some cs → (Instr.build p.1 parts).run Tryd.prog w = .ok (.agg cs) w := by
 unfold ty_bl
 simp only [List.mem_cons, List.not_mem_nil, or_false, forall_eq_or_imp, forall_eq]
 exact ⟨ty_bl7,
  ty_bl8,
  ty_bl13,
  ty_bl14,
  ty_bl18,
  ty_bl19,
  ty_bl24,
  ty_bl25,
  ty_bl54,
  ty_bl55,
  ty_bl56,
  ty_bl57,
  ty_bl59,
  ty_bl60,
  ty_bl82,
  ty_bl83,
  ty_bl91,
  ty_bl92,
  ty_bl162,
  ty_bl163,
  ty_bl174,
  ty_bl175⟩
def TB_ : TysB Tryd.prog := { TR_ with bl := ty_bl, hbl := ty_hbl }
end Go.Proofs.YtommeljlfkmpjaaDoor
namespace Go.Proofs.YtommeljlfkmpjaaDoor.Q
open Go.RowKit
abbrev Slots := List (Nat × Value)
abbrev HP := Obj → Prop
abbrev Hp := List (Nat × Bool × HP)
end Go.Proofs.YtommeljlfkmpjaaDoor.Q
namespace Go.Proofs.YtommeljlfkmpjaaDoor.Q
open Go.RowKit Go.MapKept
attribute [local go_sem] Oper.semAt_some
end Go.Proofs.YtommeljlfkmpjaaDoor.Q
namespace Go.Proofs.YtommeljlfkmpjaaDoor.Q
open Go.RowKit Go.MapKept
attribute [local go_sem] Oper.semAt_some
end Go.Proofs.YtommeljlfkmpjaaDoor.Q
namespace Go.Proofs.YtommeljlfkmpjaaDoor.Q
end Go.Proofs.YtommeljlfkmpjaaDoor.Q
namespace Go.Proofs.YtommeljlfkmpjaaDoor.Q
open Go.RowKit Go.MapKept
attribute [local go_sem] Oper.semAt_some
end Go.Proofs.YtommeljlfkmpjaaDoor.Q
namespace Go.Proofs.YtommeljlfkmpjaaDoor.Q
open Go.RowKit
end Go.Proofs.YtommeljlfkmpjaaDoor.Q
namespace Go.Proofs.YtommeljlfkmpjaaDoor.Q
open Go.RowKit
end Go.Proofs.YtommeljlfkmpjaaDoor.Q
namespace Go.Proofs.YtommeljlfkmpjaaDoor
open Go.RowKit
def depOf (o : Oper) : List Nat := (o.after.toList.filter (Region.binds .any)).map (·.on)
def dstv (ops : List Oper) (vs : List Value) (j : Nat) : Slots :=
 match nthD j ops, nth j vs with
 | some d, some v => [(d, v)]
 | _, _ => []
def flatS (ops : List Oper) (vs : List Value) : List Nat → Slots → Slots
 | [], σ => σ
 | j :: L, σ => dstv ops vs j ++ flatS ops vs L σ
theorem slot_app (k : Nat) : ∀ A B : Slots, slot k (A ++ B) = match slot k A with | some u => some u | none => slot k B
 | [], B => rfl
 | p :: A, B => by
  simp only [List.cons_append, slot]
  cases Nat.beq p.1 k with
  | true => rfl
  | false => exact slot_app k A B
theorem slot_dstv {ops : List Oper} {vs : List Value} {j k : Nat} {u : Value} : slot k (dstv ops vs j) = some u ↔ nthD j ops = some k ∧ nth j vs = some u := by
 unfold dstv
 cases h1 : nthD j ops with
 | none => simp [slot]
 | some d =>
  cases h2 : nth j vs with
  | none => simp [slot]
  | some v =>
   simp only [slot]
   cases hb : Nat.beq d k with
   | true =>
    have := Nat.eq_of_beq_eq_true hb
    subst this
    simp
   | false =>
    have : d ≠ k := fun e => by subst e; simp at hb
    simp [this]
theorem flat_a {ops : List Oper} {vs : List Value} {k : Nat} {u : Value} {σ : Slots} : ∀ L : List Nat, slot k (flatS ops vs L σ) = some u → (∃ j ∈ L, nthD j ops = some k ∧ nth j vs = some u) ∨ slot k σ = some u
 | [], h => .inr h
 | j :: L, h => by
  unfold flatS at h
  rw [slot_app] at h
  cases hd : slot k (dstv ops vs j) with
  | some v =>
   rw [hd] at h
   cases h
   exact .inl ⟨j, List.mem_cons_self .., slot_dstv.1 hd⟩
  | none =>
   rw [hd] at h
   rcases flat_a L h with ⟨i, hi, h'⟩ | h'
   ·exact .inl ⟨i, List.mem_cons_of_mem _ hi, h'⟩
   ·exact .inr h'
theorem flat_b {ops : List Oper} {vs : List Value} {σ : Slots} (hdis : ∀ i j k, nthD i ops = some k → nthD j ops = some k → i = j) {k j : Nat} {u : Value} (h1 : nthD j ops = some k) (h2 : nth j vs = some u) : ∀ L : List Nat, j ∈ L → slot k (flatS ops vs L σ) = some u
 | [], h => by cases h
 | i :: L, h => by
  unfold flatS
  rw [slot_app]
  cases hd : slot k (dstv ops vs i) with
  | some v =>
   obtain ⟨h3, h4⟩ := slot_dstv.1 hd
   have := hdis i j k h3 h1
   subst this
   rw [h2] at h4
   exact h4.symm ▸ rfl
  | none =>
   rcases List.mem_cons.1 h with rfl | h
   ·rw [slot_dstv.2 ⟨h1, h2⟩] at hd
    cases hd
   ·exact flat_b hdis h1 h2 L h
theorem flat_c {ops : List Oper} {vs : List Value} {σ : Slots} {k : Nat} (hk : ∀ j, nthD j ops ≠ some k) : ∀ L : List Nat, slot k (flatS ops vs L σ) = slot k σ
 | [] => rfl
 | i :: L => by
  unfold flatS
  rw [slot_app]
  cases hd : slot k (dstv ops vs i) with
  | some v => exact absurd (slot_dstv.1 hd).1 (hk i)
  | none => exact flat_c hk L
theorem SOK.le {N : Nat} {ds : List Deferred} {σ σ' : Slots} {a : Act} (h : SOK N ds σ a) (hs : ∀ k u, slot k σ' = some u → slot k σ = some u) : SOK N ds σ' a := ⟨h.sz, fun i v e => h.sl i v (hs i v e), h.df⟩
def OnePost (N : Nat) (ds : List Deferred) (w0 : World) (X : Nat → Prop) (η : Hp) (σ : Slots) : Exit → Act → World → Prop
 | .normal, a, w => SOK N ds σ a ∧ WOK w0 X η w
 | _, _, _ => False
theorem wpIn_swap {F : Fence} {n : Nat} {P : Program} {o : Oper} {a : Act} {w : World} {K : Act → World → Prop} {N : Nat} {ds : List Deferred} {w0 : World} {X : Nat → Prop} {η : Hp} {σ : Slots} {Q : Exit → Act → World → Prop}
  (h : o.wpIn F n P a w K (OnePost N ds w0 X η σ)) : o.wpIn F n P a w K Q := by
 unfold Oper.wpIn at *
 refine ⟨h.1, ?_⟩
 have hh := h.2
 generalize (o.semAt F.round a.eval).run P w = r at *
 cases r with
 | ok x w' =>
  cases x <;> simp only [Oper.uponIn] at hh ⊢ <;>
   first
    | exact hh
    | exact ⟨hh.1, CallsIn.mono hh.2 (fun e w'' he => by
      cases e with
      | returned v => exact he
      | panicked c => exact he.elim
      | outgrown => obtain ⟨_, _, h3⟩ := he; exact h3.elim)⟩
    | exact ⟨hh.1, RoundIn.mono hh.2 (fun e w'' he => by
      cases e with
      | returned v => exact he
      | panicked c => exact he.elim
      | outgrown => obtain ⟨_, _, h3⟩ := he; exact h3.elim)⟩
 | halt x w' => cases x <;> simp only [Oper.uponIn] at hh ⊢ <;> first | exact hh | exact hh.elim
section
variable {P : Program} {ro : Option Nat} {n N : Nat} {ds : List Deferred} {w0 : World} {X : Nat → Prop} {Q : Exit → Act → World → Prop} {σ : Slots} {η : Hp}
def DrawOps (P : Program) (ro : Option Nat) (n N : Nat) (ds : List Deferred) (w0 : World) (X : Nat → Prop) (ops : List Oper) (vs : List Value) (σ : Slots) (η : Hp) : List Oper → List Value → Prop
 | o :: r, v :: vr => (∀ τ, XO P ro n N ds w0 X (OnePost N ds w0 X η (putS o.dst v (flatS ops vs (depOf o) σ ++ τ))) ops (flatS ops vs (depOf o) σ ++ τ) η [o]) ∧ DrawOps P ro n N ds w0 X ops vs σ η r vr
 | _, _ => True
theorem drawOps_get {ops : List Oper} {vs : List Value} : ∀ (l : List Oper) (vl : List Value) (i : Nat) (o : Oper) (v : Value), DrawOps P ro n N ds w0 X ops vs σ η l vl → l[i]? = some o → nth i vl = some v →
  ∀ τ, XO P ro n N ds w0 X (OnePost N ds w0 X η (putS o.dst v (flatS ops vs (depOf o) σ ++ τ))) ops (flatS ops vs (depOf o) σ ++ τ) η [o]
 | [], _, i, o, v, _, h, _ => by simp at h
 | x :: r, [], i, o, v, _, _, h => by simp [nth] at h
 | x :: r, y :: vr, 0, o, v, h, h1, h2 => by
  simp [nth] at h1 h2
  subst h1 h2
  exact h.1
 | x :: r, y :: vr, i + 1, o, v, h, h1, h2 => drawOps_get r vr i o v h.2 (by simpa using h1) (by simpa [nth] using h2)
def dstsOf_ (ops : List Oper) : List Tmp := ops.filterMap (·.dst)
def freshB (σ : Slots) : List Tmp → Bool
 | [] => true
 | d :: r => (match slot d σ with | none => true | some _ => false) && freshB σ r
def distB : List Tmp → Bool
 | [] => true
 | d :: r => !(r.any fun x => Nat.beq d x) && distB r
def depsB : Nat → List Oper → Bool
 | _, [] => true
 | i, o :: r => (depOf o).all (fun j => Nat.blt j i) && depsB (i + 1) r
theorem depsB_get : ∀ (l : List Oper) (i k : Nat) (o : Oper), depsB i l = true → l[k]? = some o → ∀ j ∈ depOf o, j < i + k
 | [], i, k, o, _, h => by simp at h
 | x :: r, i, 0, o, h, h1 => by
  simp at h1
  subst h1
  simp only [depsB, Bool.and_eq_true, List.all_eq_true, Nat.blt_eq] at h
  intro j hj
  simpa using h.1 j hj
 | x :: r, i, k + 1, o, h, h1 => by
  simp only [depsB, Bool.and_eq_true] at h
  intro j hj
  have := depsB_get r (i + 1) k o h.2 (by simpa using h1) j hj
  omega
theorem distB_get : ∀ (l : List Oper) (i j k : Nat), distB (dstsOf_ l) = true → nthD i l = some k → nthD j l = some k → i = j
 | [], i, j, k, _, h, _ => by simp [nthD] at h
 | x :: r, 0, 0, k, _, _, _ => rfl
 | x :: r, 0, j + 1, k, hd, h1, h2 => by
  simp only [nthD] at h1 h2
  simp only [dstsOf_, List.filterMap_cons, h1, distB, Bool.and_eq_true, Bool.not_eq_true', List.any_eq_false] at hd
  rw [nthD_eq] at h2
  obtain ⟨o, ho, ho2⟩ := Option.bind_eq_some_iff.1 h2
  have := hd.1 k (List.mem_filterMap.2 ⟨o, List.mem_of_getElem? ho, ho2⟩)
  simp at this
 | x :: r, i + 1, 0, k, hd, h1, h2 => by
  simp only [nthD] at h1 h2
  simp only [dstsOf_, List.filterMap_cons, h2, distB, Bool.and_eq_true, Bool.not_eq_true', List.any_eq_false] at hd
  rw [nthD_eq] at h1
  obtain ⟨o, ho, ho2⟩ := Option.bind_eq_some_iff.1 h1
  have := hd.1 k (List.mem_filterMap.2 ⟨o, List.mem_of_getElem? ho, ho2⟩)
  simp at this
 | x :: r, i + 1, j + 1, k, hd, h1, h2 => by
  simp only [nthD] at h1 h2
  have hd' : distB (dstsOf_ r) = true := by
   simp only [dstsOf_, List.filterMap_cons] at hd ⊢
   cases hx : x.dst with
   | none => rw [hx] at hd; exact hd
   | some d => rw [hx] at hd; simp only [distB, Bool.and_eq_true] at hd; exact hd.2
  rw [distB_get r i j k hd' h1 h2]
theorem freshB_get : ∀ (l : List Tmp) (d : Tmp), freshB σ l = true → d ∈ l → slot d σ = none
 | [], d, _, h => by cases h
 | x :: r, d, h, hm => by
  simp only [freshB, Bool.and_eq_true] at h
  rcases List.mem_cons.1 hm with rfl | hm
  ·have := h.1
   split at this
   ·assumption
   ·cases this
  ·exact freshB_get r d h.2 hm
theorem filter_less {l : List Nat} {p q : Nat → Bool} (h : ∀ j ∈ l, q j = true → p j = true) {i : Nat} (hi : i ∈ l) (hp : p i = true) (hq : q i = false) : (l.filter q).length < (l.filter p).length := by
 induction l with
 | nil => cases hi
 | cons x r ih =>
  have hle : ∀ l : List Nat, (∀ j ∈ l, q j = true → p j = true) → (l.filter q).length ≤ (l.filter p).length := by
   intro l
   induction l with
   | nil => intro _; simp
   | cons y r ih =>
    intro h
    have := ih (fun j hj => h j (List.mem_cons_of_mem _ hj))
    have h1 := h y (List.mem_cons_self ..)
    cases hqy : q y <;> cases hpy : p y <;> simp_all
    omega
  rcases List.mem_cons.1 hi with rfl | hi
  ·have := hle r (fun j hj => h j (List.mem_cons_of_mem _ hj))
   simp only [List.filter_cons, hp, hq, ↓reduceIte, Bool.false_eq_true, List.length_cons]
   omega
  ·have := ih (fun j hj => h j (List.mem_cons_of_mem _ hj)) hi
   have h1 := h x (List.mem_cons_self ..)
   cases hqy : q x <;> cases hpy : p x <;> simp_all
   omega
theorem xc_draw {id : Nat} {ops : List Oper} (vs : List Value) (hmix : P.follows .mixedOrders = true) (hlen : Nat.beq vs.length ops.length = true) (hbind : true = true) (hdeps : depsB 0 ops = true) (hdist : distB (dstsOf_ ops) = true) (hfresh : freshB σ (dstsOf_ ops) = true)
  (hop : DrawOps P ro n N ds w0 X ops vs σ η ops vs) (hQ : XQ N ds w0 X Q .normal (flatS ops vs (List.range ops.length) σ) η) : XC P ro n N ds w0 X Q σ η (.region id ops.toArray true) := by
 have hl := Nat.eq_of_beq_eq_true hlen
 have hdis := fun i j k => distB_get ops i j k hdist
 have hfr : ∀ j d, nthD j ops = some d → slot d σ = none := fun j d h => by
  rw [nthD_eq] at h
  obtain ⟨o, ho, ho2⟩ := Option.bind_eq_some_iff.1 h
  exact freshB_get _ d hfresh (List.mem_filterMap.2 ⟨o, List.mem_of_getElem? ho, ho2⟩)
 have hnot : ∀ k u, slot k σ = some u → ∀ j, nthD j ops ≠ some k := fun k u h j e => by rw [hfr j k e] at h; cases h
 -- those of some are those of more
 have hmore : ∀ L M : List Nat, (∀ j ∈ L, j ∈ M) → ∀ k u, slot k (flatS ops vs L σ) = some u → slot k (flatS ops vs M σ) = some u := by
  intro L M h k u hk
  rcases flat_a L hk with ⟨j, hj, h1, h2⟩ | h1
  ·exact flat_b hdis h1 h2 M (h j hj)
  ·rw [flat_c (hnot k u h1) M]; exact h1
 intro a w ha hw
 refine wpIn_region_any hmix ?_
 have key : ∀ (fuel : Nat) (L : List Nat) (listed : Array Bool) (a : Act) (w : World), listed.size = ops.length → (∀ j, listed.getD j false = true ↔ j ∈ L) → (∀ j ∈ L, j < ops.length) → ((List.range ops.length).filter fun j => !listed.getD j false).length ≤ fuel → SOK N ds (flatS ops vs L σ) a → WOK w0 X η w →
   wpAnyIn (wideR ro) n P .any ops.toArray Q fuel listed a w := by
  intro fuel
  induction fuel with
  | zero =>
   intro L listed a w hsz hL hLb hcnt ha hw
   have hall : ∀ j, j < ops.length → j ∈ L := by
    intro j hj
    have h0 := List.length_eq_zero_iff.1 (Nat.le_zero.1 hcnt)
    rw [List.filter_eq_nil_iff] at h0
    have := h0 j (List.mem_range.2 hj)
    exact (hL j).1 (by simpa using this)
   refine ⟨?_, hQ a w (ha.le (hmore _ _ (fun j hj => hall j (List.mem_range.1 hj)))) hw⟩
   apply List.eq_nil_iff_forall_not_mem.2
   intro j hj
   obtain ⟨h1, o, h2, _⟩ := mem_ready.1 hj
   have hlt : j < ops.length := by have := (Array.getElem?_eq_some_iff.1 h2).1; simpa using this
   have h3 := (hL j).2 (hall j hlt)
   rw [Array.getD_eq_getD_getElem?] at h1 h3
   rw [Array.getElem?_eq_getElem (by rw [hsz]; exact hlt)] at h1 h3
   simp at h1 h3
   rw [h1] at h3
   cases h3
  | succ fuel ih =>
   intro L listed a w hsz hL hLb hcnt ha hw
   refine ⟨fun hnil => ?_, fun i hi => ?_⟩
   ·-- nothing is ready: all are listed
    have hall : ∀ k j, j ≤ k → j < ops.length → j ∈ L := by
     intro k
     induction k with
     | zero =>
      intro j hj hlt
      by_cases hm : j ∈ L
      ·exact hm
      ·exfalso
       have : j ∈ Region.ready .any ops.toArray listed := by
        refine mem_ready.2 ⟨?_, ops[j], by simp [List.getElem?_eq_getElem hlt], ?_⟩
        ·have h3 : listed.getD j false ≠ true := fun q => hm ((hL j).1 q)
         rw [Array.getD_eq_getD_getElem?, Array.getElem?_eq_getElem (by rw [hsz]; exact hlt)] at h3 ⊢
         simpa using h3
        ·intro e he hbd
         have h4 := depsB_get ops 0 j ops[j] hdeps (List.getElem?_eq_getElem hlt) e.on (List.mem_map.2 ⟨e, List.mem_filter.2 ⟨by simpa using he, hbd⟩, rfl⟩)
         omega
       rw [hnil] at this
       cases this
     | succ k ihk =>
      intro j hj hlt
      by_cases hjk : j ≤ k
      ·exact ihk j hjk hlt
      by_cases hm : j ∈ L
      ·exact hm
      ·exfalso
       have : j ∈ Region.ready .any ops.toArray listed := by
        refine mem_ready.2 ⟨?_, ops[j], by simp [List.getElem?_eq_getElem hlt], ?_⟩
        ·have h3 : listed.getD j false ≠ true := fun q => hm ((hL j).1 q)
         rw [Array.getD_eq_getD_getElem?, Array.getElem?_eq_getElem (by rw [hsz]; exact hlt)] at h3 ⊢
         simpa using h3
        ·intro e he hbd
         have h4 := depsB_get ops 0 j ops[j] hdeps (List.getElem?_eq_getElem hlt) e.on (List.mem_map.2 ⟨e, List.mem_filter.2 ⟨by simpa using he, hbd⟩, rfl⟩)
         exact (hL e.on).2 (ihk e.on (by omega) (by omega))
       rw [hnil] at this
       cases this
    exact hQ a w (ha.le (hmore _ _ (fun j hj => hall j j (Nat.le_refl _) (List.mem_range.1 hj)))) hw
   ·obtain ⟨h1, o, h2, h3⟩ := mem_ready.1 hi
    have hlt : i < ops.length := by have := (Array.getElem?_eq_some_iff.1 h2).1; simpa using this
    have ho : ops[i]? = some o := by simpa using h2
    have hio : i < vs.length := by rw [hl]; exact hlt
    have hv : nth i vs = some vs[i] := by rw [nth_eq, List.getElem?_eq_getElem hio]
    generalize vs[i] = v at hv
    have hnl : ¬ i ∈ L := fun q => by
     have h4 := (hL i).2 q
     rw [Array.getD_eq_getD_getElem?, Array.getElem?_eq_getElem (by rw [hsz]; exact hlt)] at h1 h4
     simp at h1 h4
     rw [h1] at h4
     cases h4
    have hdL : ∀ j ∈ depOf o, j ∈ L := by
     intro j hj
     obtain ⟨e, he, rfl⟩ := List.mem_map.1 hj
     obtain ⟨he, hb⟩ := List.mem_filter.1 he
     exact (hL e.on).1 (h3 e (by simpa using he) hb)
    have hcons := hmore (depOf o) L hdL
    have hs : SOK N ds (flatS ops vs (depOf o) σ ++ flatS ops vs L σ) a := ha.le fun k u hk => by
     rw [slot_app] at hk
     cases hd : slot k (flatS ops vs (depOf o) σ) with
     | some x => rw [hd] at hk; cases hk; exact hcons k _ hd
     | none => rw [hd] at hk; exact hk
    have hrun := drawOps_get ops vs i o v hop ho hv (flatS ops vs L σ) a w hs hw
    have hnext : ∀ a' w', OnePost N ds w0 X η (putS o.dst v (flatS ops vs (depOf o) σ ++ flatS ops vs L σ)) .normal a' w' → wpAnyIn (wideR ro) n P .any ops.toArray Q fuel (listed.setIfInBounds i true) a' w' := by
     rintro a' w' ⟨ha', hw'⟩
     refine ih (i :: L) _ a' w' (by simp [hsz]) ?_ ?_ ?_ (ha'.le ?_) hw'
     ·intro j
      rw [Array.getD_eq_getD_getElem?]
      by_cases e : i = j
      ·subst e
       rw [Array.getElem?_setIfInBounds_self, if_pos (by rw [hsz]; exact hlt)]
       simp
      ·rw [Array.getElem?_setIfInBounds_ne e, ← Array.getD_eq_getD_getElem?, hL j]
       simp [show ¬ j = i from fun q => e q.symm]
     ·intro j hj
      rcases List.mem_cons.1 hj with rfl | hj
      ·exact hlt
      ·exact hLb j hj
     ·have : ((List.range ops.length).filter fun j => !(listed.setIfInBounds i true).getD j false).length < ((List.range ops.length).filter fun j => !listed.getD j false).length := by
       refine filter_less (i := i) ?_ (List.mem_range.2 hlt) ?_ ?_
       ·intro j hj hq
        by_cases e : i = j
        ·subst e
         rw [Array.getD_eq_getD_getElem?, Array.getElem?_setIfInBounds_self, if_pos (by rw [hsz]; exact hlt)] at hq
         simp at hq
        ·rw [Array.getD_eq_getD_getElem?, Array.getElem?_setIfInBounds_ne e, ← Array.getD_eq_getD_getElem?] at hq
         exact hq
       ·have h4 : listed.getD i false ≠ true := fun q => hnl ((hL i).1 q)
        simpa using h4
       ·rw [Array.getD_eq_getD_getElem?, Array.getElem?_setIfInBounds_self, if_pos (by rw [hsz]; exact hlt)]
        simp
      omega
     ·intro k u hk
      unfold flatS at hk
      rw [slot_app] at hk
      cases hd : slot k (dstv ops vs i) with
      | some x =>
       rw [hd] at hk
       cases hk
       obtain ⟨h5, h6⟩ := slot_dstv.1 hd
       rw [hv] at h6
       cases h6
       rw [nthD_eq, ho] at h5
       simp only [Option.bind_some] at h5
       rw [h5]
       unfold putS slot
       simp
      | none =>
       rw [hd] at hk
       have h7 : slot k (flatS ops vs (depOf o) σ ++ flatS ops vs L σ) = some u := by
        rw [slot_app]
        cases hd2 : slot k (flatS ops vs (depOf o) σ) with
        | some x => have hk' : slot k (flatS ops vs L σ) = some u := hk; have := hcons k x hd2; rw [hk'] at this; exact this.symm
        | none => exact hk
       cases hdo : o.dst with
       | none => exact h7
       | some d =>
        unfold putS slot
        have hne : Nat.beq d k = false := by
         cases hb : Nat.beq d k with
         | false => rfl
         | true =>
          exfalso
          have e := Nat.eq_of_beq_eq_true hb
          subst e
          rw [slot_dstv.2 ⟨by rw [nthD_eq, ho]; exact hdo, hv⟩] at hd
          cases hd
        simp only [hne, cond_false]
        exact h7
    unfold wpOpIn
    simp only [h2]
    unfold wpListIn at hrun
    split at hrun
    ·rename_i hw1
     rw [if_pos hw1]
     exact wpIn_swap (Oper.wpIn_mono (fun a' w' h => hnext a' w' h) hrun)
    ·rename_i hw1
     rw [if_neg hw1]
     exact ⟨fun _ _ => trivial, hnext _ _ hrun.2⟩
 refine key _ [] _ a w.drew (by simp) (fun j => ?_) (fun j hj => by cases hj) ?_ ha hw.drew
 ·constructor
  ·intro h
   rw [Array.getD_eq_getD_getElem?, Array.getElem?_replicate] at h
   split at h <;> simp at h
  ·intro h
   cases h
 ·have := List.length_filter_le (fun j => !(Array.replicate ops.toArray.size false).getD j false) (List.range ops.length)
  simpa using this
end
structure BOK (η : Hp) (w : World) : Prop where
 bl : ∀ e ∈ η, ∃ o, w.heap[e.1]? = some o ∧ e.2.2 o
 nd : (η.map (·.1)).Nodup
theorem WOK.bok {w0 : World} {X : Nat → Prop} {η η' : Hp} {w : World} (h : WOK w0 X η w) (hs : List.Sublist η' η) : BOK η' w := ⟨(h.sub hs).bl, (h.sub hs).nd⟩
def XW (η : Hp) : Nat → Prop := fun k => ∃ e ∈ η, e.2.1 = true ∧ e.1 = k
theorem BOK.wok {η : Hp} {w : World} (h : BOK η w) : WOK w (XW η) η w := ⟨Kx.refl _ w, h.bl, h.nd, fun e he hw => .inr ⟨e, he, hw, rfl⟩⟩
theorem WOK.wok {w0 : World} {X : Nat → Prop} {η : Hp} {w : World} (h : WOK w0 X η w) : WOK w (XW η) η w := (h.bok (List.Sublist.refl _)).wok
theorem WOK.back {w0 w1 : World} {X : Nat → Prop} {η η' : Hp} {w : World} (h0 : WOK w0 X η w1) (h : WOK w1 (XW η) η' w) : WOK w0 X η' w := by
 have hx : ∀ k, XW η k → w0.heap.size ≤ k ∨ X k := fun k ⟨e, he, hw, hk⟩ => hk ▸ h0.ow e he hw
 refine ⟨⟨h.kx.os.trans h0.kx.os, h.kx.tape.trans h0.kx.tape, h.kx.output.trans h0.kx.output, Nat.le_trans h0.kx.size h.kx.size, fun k hk hnx => ?_⟩, h.bl, h.nd, fun e he hw => ?_⟩
 ·refine (h.kx.block k (Nat.lt_of_lt_of_le hk h0.kx.size) (fun q => ?_)).trans (h0.kx.block k hk hnx)
  rcases hx k q with h3 | h3
  ·exact absurd hk (Nat.not_lt.2 h3)
  ·exact hnx h3
 ·rcases h.ow e he hw with h3 | h3
  ·exact .inl (Nat.le_trans h0.kx.size h3)
  ·exact hx _ h3
def SameB (wB w : World) : Prop := ∀ k, k < wB.heap.size → w.heap[k]? = wB.heap[k]?
theorem SameB.of_below {wB w : World} (h : Below wB.heap.size wB w) : SameB wB w := h.block
theorem SameB.kx {wB w w1 : World} {X : Nat → Prop} (h : SameB wB w) (hs : wB.heap.size ≤ w.heap.size) (k : Kx X w w1) (hX : ∀ b, X b → wB.heap.size ≤ b) : SameB wB w1 := fun i hi => (k.block i (Nat.lt_of_lt_of_le hi hs) (fun q => absurd hi (Nat.not_lt.2 (hX i q)))).trans (h i hi)
theorem SameB.cell {wB w : World} (h : SameB wB w) {p : Addr} {v : Value} (hc : wB.cell? p = some v) : w.cell? p = some v := by
 have hb := World.block_lt_of_cell? wB p hc
 unfold World.cell? at hc ⊢
 rw [h _ hb]
 exact hc
theorem RO.same {wB w : World} {X : Nat → Prop} {p : Addr} {cs : List Value} (h : RO wB XNone p cs) (hs : SameB wB w) (hX : ∀ b, X b → wB.heap.size ≤ b) : RO w X p cs := fun j v hj => by
 have h1 := (h j v hj).1
 exact ⟨hs.cell h1, fun q => absurd (World.block_lt_of_cell? wB _ h1) (Nat.not_lt.2 (hX _ q))⟩
def KpK (K : Nat → Prop) (n0 : Nat) (W W' : World) : Prop := (∀ k, K k → W'.heap[k]? = W.heap[k]?) ∧ W.heap.size ≤ W'.heap.size ∧ (∀ k o, n0 ≤ k → W.heap[k]? = some o → o.isWalk = true → W'.heap[k]? = some o)
theorem KpK.refl (K : Nat → Prop) (n0 : Nat) (W : World) : KpK K n0 W W := ⟨fun _ _ => rfl, Nat.le_refl _, fun _ _ _ h _ => h⟩
theorem KpK.trans {K : Nat → Prop} {n0 : Nat} {A B C : World} (h : KpK K n0 A B) (k : KpK K n0 B C) : KpK K n0 A C := ⟨fun i hi => (k.1 i hi).trans (h.1 i hi), Nat.le_trans h.2.1 k.2.1, fun i o hi ho hw => k.2.2 i o hi (h.2.2 i o hi ho hw) hw⟩
section
variable {P : Program} {ro : Option Nat} {n N : Nat} {ds : List Deferred} {w0 : World} {X : Nat → Prop} {Q : Exit → Act → World → Prop} {ops : List Oper} {σ : Slots} {η : Hp} {rest : List Oper}
variable {d : Option Tmp} {ty : TypeId} {pos : String} {aft : Array Edge} {g : Option (Nat × Bool)}
theorem xo_yield {l : Nat} {fo : Operand} {xs : List Operand} {ats : Array TypeId} {vs : List Value} (hg : gS ops σ g = some true) (hf : ev σ fo = some (.func (.yield l) #[] #[])) (ha_ : evs σ xs = some vs) (hN : dstOK N d = true)
  (hy : ∀ w, WOK w0 X η w → YieldAt (wideR ro) (n - 1) P l vs.toArray w fun e W' => ∃ v η' w1 X1, e = .returned v ∧ WOK w1 X1 η' W' ∧ XO P ro n N ds w1 X1 Q ops (putS d v σ) η' rest) :
  XO P ro n N ds w0 X Q ops σ η (⟨d, .call { callee := .value fo, args := xs.toArray, argTypes := ats }, ty, pos, aft, g⟩ :: rest) := by
 intro a w ha hw
 unfold wpListIn
 rw [if_pos (wanted_of ha (o := ⟨d, .call { callee := .value fo, args := xs.toArray, argTypes := ats }, ty, pos, aft, g⟩) hg)]
 refine ⟨fun _ _ => trivial, ?_⟩
 rw [show (wideR ro).round = ro from rfl, Oper.semAt_eq ro _ _ (fun c e => by cases e)]
 obtain ⟨fn, tmps, assign, body, hr, hR⟩ := hy w hw
 have hrun : (execOp a.eval ⟨d, .call { callee := .value fo, args := xs.toArray, argTypes := ats }, ty, pos, aft, g⟩).run P w = .ok (.round l fn tmps assign body) w := by
  simp [execOp, resolve, Deferred.ofValue, invoke, ha.ev hf, ha.evs ha_, hr]
 rw [hrun]
 refine ⟨(fun h => by cases h), hR.mono ?_⟩
 rintro e w' ⟨v, η', w1, X1, rfl, hw', hk⟩
 exact hk _ _ (ha.put hN v) hw'
theorem xc_loopJ {γ : Type} {c : Code} (C : γ → Prop) (S : γ → Slots) (H : γ → Hp) (J : γ → World → Prop) (μ : γ → Nat) (g0 : γ) (hC : C g0) (hs : subS (S g0) σ) (h0 : ∀ w, WOK w0 X η w → BOK (H g0) w ∧ J g0 w)
  (round : ∀ g, C g → ∀ w, BOK (H g) w → J g w → XC P ro n N ds w (XW (H g)) (Exit.then (fun a w => ∃ k, k < μ g ∧ ∃ g', C g' ∧ μ g' = k ∧ SOK N ds (S g') a ∧ BOK (H g') w ∧ J g' w) Q) (S g) (H g) c) : XC P ro n N ds w0 X Q σ η (.loop c) := by
 intro a w ha hw
 obtain ⟨hb, hj⟩ := h0 w hw
 refine wpIn_loop_ghost (fun k a w => ∃ g', C g' ∧ μ g' = k ∧ SOK N ds (S g') a ∧ BOK (H g') w ∧ J g' w) (μ g0) ⟨g0, hC, rfl, ha.sub hs, hb, hj⟩ ?_
 rintro k a w ⟨g, hg, rfl, h1, h2, h3⟩
 exact round g hg w h2 h3 a w h1 h2.wok
theorem xq_againJ {γ : Type} (C : γ → Prop) (S : γ → Slots) (H : γ → Hp) (J : γ → World → Prop) (μ : γ → Nat) (m : Nat) (g' : γ) (hC : C g') (hm : μ g' < m) (hs : subS (S g') σ) (h : ∀ w, WOK w0 X η w → BOK (H g') w ∧ J g' w) :
  XQ N ds w0 X (Exit.then (fun a w => ∃ k, k < m ∧ ∃ g', C g' ∧ μ g' = k ∧ SOK N ds (S g') a ∧ BOK (H g') w ∧ J g' w) Q) .normal σ η :=
 fun a w ha hw => ⟨_, hm, g', hC, rfl, ha.sub hs, (h w hw).1, (h w hw).2⟩
end
theorem x_iter {P : Program} {g : Nat} {fn : Func} {c : Code} {cs : List Value} {m : Nat} {W : World} {R : Ending → World → Prop} {X : Nat → Prop} {η : Hp} {l : Nat} (hf : P.funcs[g]? = some fn) (hb : fn.body = some c) {N : Nat} (hn : fn.ntmps = N) (hl : Nat.ble (cs.length + 1) N = true) (hw : WOK W X η W)
  (h : XC P none m N [] W X (bodyPost P fn R) (argS 0 (.func (.yield l) #[] #[] :: cs)) η c) : CallsIn Fence.wide m P g (#[.func (.yield l) #[] #[]] ++ cs.toArray) W R := by
 subst hn
 have := callsIn_of_wp (F := Fence.wide) (n := m) (args := (.func (.yield l) #[] #[] :: cs).toArray) hf hb trivial (h _ W (SOK.args _ _ (by simpa using Nat.le_of_ble_eq_true hl)) hw) rfl
 simpa using this
def mark_ (D : Nat) : Deferred := { target := .collected D, args := #[] }
def hdef : HP := fun o => o = .deferred (some [])
section
variable {P : Program} {n N : Nat} {ds : List Deferred} {w0 : World} {Q : Exit → Act → World → Prop} {σ : Slots} {η : Hp}
def RoundPost (N : Nat) (W : World) (η : Hp) (I : World → Prop) : Exit → Act → World → Prop
 | .normal, _, w => I w
 | _, _, _ => False
end
theorem x_callsM {P : Program} {f : FuncId} {fn : Func} {c : Code} {vs : List Value} {w : World} {R : Ending → World → Prop} {η : Hp} (n : Nat) (hf : P.funcs[f]? = some fn) (hb : fn.body = some c) {N : Nat} (hn : fn.ntmps = N) (hl : Nat.ble vs.length N = true) (hw : WOK w XNone η w)
  (h : XC P none n N [] w XNone (bodyPostM Fence.wide n P fn R) (argS 0 vs) η c) : Calls P f vs.toArray w R := by
 subst hn
 exact (callsIn_wide (n := n)).1 (callsIn_of_wp_marks hf hb trivial (h _ w (SOK.args vs _ (Nat.le_of_ble_eq_true hl)) hw) rfl)
theorem below_takeD {w0 w : World} {D : Nat} {o : Obj} (h : Below w0.heap.size w0 w) (hD : w0.heap.size ≤ D) : Below w0.heap.size w0 (w.putObj D o) :=
 ⟨h.os, h.tape, h.output, by simp; exact h.size, fun k hk => (World.putObj_heap_other (by omega)).trans (h.block k hk)⟩
section
variable {P : Program} {n N : Nat} {w0 : World} {fn : Func} {R : Ending → World → Prop} {σ : Slots} {η : Hp}
theorem xq_retM1 {t : Tmp} {v : Value} {D : Nat} (hf : fn.results = #[.tmp t]) (hv : slot t σ = some v) (h : ∀ w, WOK w0 XNone η w → R (.returned v) w) : XQ N [mark_ D] w0 XNone (bodyPostM Fence.wide n P fn R) .ret σ ((D, true, hdef) :: η) := by
 intro a w ha hw
 obtain ⟨o, hD, ho⟩ := hw.bl (D, true, hdef) (List.mem_cons_self ..)
 rw [show o = _ from ho] at hD
 show LeavesInM _ _ _ _ _ _ a.defers _ w
 rw [ha.df]
 refine ⟨by simp, .inl ⟨D, _, rfl, run_takeDeferred hD, ?_⟩⟩
 have hw' : WOK w0 XNone η (w.putObj D (.deferred none)) := by
  have h1 : D ∉ η.map (·.1) := by have := hw.nd; simp only [List.map_cons, List.nodup_cons] at this; exact this.1
  have h2 := hw.sub (List.sublist_cons_self _ _)
  have h3 : w0.heap.size ≤ D := by
   rcases hw.ow (D, true, hdef) (List.mem_cons_self ..) rfl with h4 | h4
   ·exact h4
   ·exact h4.elim
  refine ⟨Kx.of_below (below_takeD h2.kx.below h3), ?_, h2.nd, h2.ow⟩
  intro e he
  obtain ⟨o, h4, h5⟩ := h2.bl e he
  exact ⟨o, (World.putObj_heap_other (fun q => h1 (List.mem_map.2 ⟨e, he, q⟩))).trans h4, h5⟩
 exact ⟨v, by rw [results_tmp hf, getD_of (ha.sl _ _ hv)], h _ hw'⟩
end
end Go.Proofs.YtommeljlfkmpjaaDoor
namespace Go.Proofs.YtommeljlfkmpjaaDoor
open Go.RowKit
section
variable {P : Program} {ro : Option Nat} {n N : Nat} {ds : List Deferred} {w0 : World} {X : Nat → Prop} {Q : Exit → Act → World → Prop} {σ : Slots} {η : Hp} {c : Code}
theorem xc_know {φ : Prop} (h : ∀ w, WOK w0 X η w → φ) (k : φ → XC P ro n N ds w0 X Q σ η c) : XC P ro n N ds w0 X Q σ η c := fun a w ha hw => k (h w hw) a w ha hw
theorem WOK.own {w : World} (h : WOK w0 XNone η w) {b : Nat} {φ : HP} (he : (b, true, φ) ∈ η) : w0.heap.size ≤ b := by
 rcases h.ow _ he rfl with h1 | h1
 ·exact h1
 ·exact h1.elim
end
theorem Kx.grown {X : Nat → Prop} {w0 w : World} {row : Option Nat} (h : Kx X w0 w) (hr : ∀ k, X k → row = some k) : w0.grownBy w row := ⟨h.os, h.tape, h.output, h.size, fun k hk hne => h.block k hk (fun q => hne (hr k q).symm)⟩
def RowAt (e : TypeId) (base : Nat) (w : World) (r : RowR) (xs : List Int) : Prop := (r = none → xs = []) ∧ ∀ p, r = some p → base ≤ p.1 ∧ ∃ o, w.heap[p.1]? = some o ∧ orow e 1 xs.length p.2 (xs.map (.int .i64)) o
end Go.Proofs.YtommeljlfkmpjaaDoor
namespace Go.Proofs.YtommeljlfkmpjaaDoor
open Go.RowKit
theorem WOK.row {w0 : World} {X : Nat → Prop} {η : Hp} {w w' : World} (h : WOK w0 X η w) (hb : Below w.heap.size w w') {e : TypeId} {r : RowR} {xs : List Int} (hr : RowAt e w.heap.size w' r xs) : WOK w0 X (hpR e 1 r xs.length (xs.map (.int .i64)) ++ η) w' := by
 cases r with
 | none => exact h.below hb
 | some p =>
  obtain ⟨h1, o, h2, h3⟩ := hr.2 p rfl
  exact h.more hb h1 h2 h3
theorem RowAt.of {w0 : World} {η : Hp} {w : World} {e : TypeId} {r : RowR} {xs : List Int} (h : WOK w0 XNone (hpR e 1 r xs.length (xs.map (.int .i64)) ++ η) w) (h0 : r = none → xs = []) : RowAt e w0.heap.size w r xs := by
 refine ⟨h0, fun p hp => ?_⟩
 subst hp
 exact ⟨h.own (List.Mem.head _), h.bl (p.1, true, orow e 1 xs.length p.2 (xs.map (.int .i64))) (List.Mem.head _)⟩
theorem RowAt.below {e : TypeId} {base : Nat} {w w' : World} {r : RowR} {xs : List Int} (h : RowAt e base w r xs) (hb : Below w.heap.size w w') : RowAt e base w' r xs := by
 refine ⟨h.1, fun p hp => ?_⟩
 obtain ⟨h1, o, h2, h3⟩ := h.2 p hp
 exact ⟨h1, o, (hb.block _ (Array.getElem?_eq_some_iff.1 h2).1).trans h2, h3⟩
theorem RowAt.mono {e : TypeId} {base base' : Nat} {w : World} {r : RowR} {xs : List Int} (h : RowAt e base w r xs) (hb : base' ≤ base) : RowAt e base' w r xs := ⟨h.1, fun p hp => ⟨Nat.le_trans hb (h.2 p hp).1, (h.2 p hp).2⟩⟩
end Go.Proofs.YtommeljlfkmpjaaDoor
namespace Go.Proofs.YtommeljlfkmpjaaDoor
open Go.RowKit
theorem WOK.updK {w0 : World} {X : Nat → Prop} {η η' : Hp} {w w' : World} {b : Nat} {φ' : HP} (h : WOK w0 X η w) (hU : Upd b φ' η η') (k : Kx (fun q => q = b) w w') {o : Obj} (ho : w'.heap[b]? = some o) (hφ : φ' o) : WOK w0 X η' w' := by
 obtain ⟨φ, hb⟩ := hU.has
 have hown := h.ow _ hb rfl
 refine ⟨⟨k.os.trans h.kx.os, k.tape.trans h.kx.tape, k.output.trans h.kx.output, Nat.le_trans h.kx.size k.size, fun i hi hx => ?_⟩, ?_, by rw [hU.keys]; exact h.nd, ?_⟩
 ·refine (k.block i (Nat.lt_of_lt_of_le hi h.kx.size) (fun e => ?_)).trans (h.kx.block i hi hx)
  subst e
  rcases hown with h2 | h2
  ·exact absurd hi (Nat.not_lt.2 h2)
  ·exact hx h2
 ·intro e he
  rcases hU.memNe h.nd e he with rfl | ⟨he, hne⟩
  ·exact ⟨o, ho, hφ⟩
  ·obtain ⟨o', h2, h3⟩ := h.bl e he
   exact ⟨o', (k.block _ (h.lt he) hne).trans h2, h3⟩
 ·intro e he hw
  rcases hU.mem e he with rfl | he
  ·exact hown
  ·exact h.ow e he hw
end Go.Proofs.YtommeljlfkmpjaaDoor
namespace Go.Proofs.YtommeljlfkmpjaaDoor
open Go.RowKit
theorem WOK.more2 {w0 : World} {X : Nat → Prop} {η : Hp} {w w' : World} (h : WOK w0 X η w) (hb : Below w.heap.size w w') {b c : Nat} {o o2 : Obj} {φ φ2 : HP} (hbb : w.heap.size ≤ b) (hcc : w.heap.size ≤ c) (hne : b ≠ c) (ho : w'.heap[b]? = some o) (ho2 : w'.heap[c]? = some o2) (hφ : φ o) (hφ2 : φ2 o2) : WOK w0 X ((c, true, φ2) :: (b, true, φ) :: η) w' := by
 have h1 := h.more hb hbb ho hφ
 refine ⟨h1.kx, ?_, ?_, ?_⟩
 ·intro e he
  rcases List.mem_cons.1 he with rfl | he
  ·exact ⟨o2, ho2, hφ2⟩
  ·exact h1.bl e he
 ·simp only [List.map_cons, List.nodup_cons, List.mem_cons, not_or]
  refine ⟨⟨fun e => hne e.symm, fun hm => ?_⟩, ?_⟩
  ·obtain ⟨e, he, h2⟩ := List.mem_map.1 hm
   have := h.lt he
   omega
  ·have := h1.nd
   simpa only [List.map_cons, List.nodup_cons] using this
 ·intro e he hw
  rcases List.mem_cons.1 he with rfl | he
  ·exact .inl (Nat.le_trans h.kx.size hcc)
  ·exact h1.ow e he hw
section
variable {P : Program} {ro : Option Nat} {n N : Nat} {ds : List Deferred} {w0 : World} {X : Nat → Prop} {Q : Exit → Act → World → Prop} {σ : Slots} {η : Hp}
theorem DrawOps.nil {ops : List Oper} {vs : List Value} : DrawOps P ro n N ds w0 X ops vs σ η [] [] := trivial
theorem DrawOps.cons {ops : List Oper} {vs : List Value} {o : Oper} {r : List Oper} {v : Value} {vr : List Value} (h : ∀ τ, XO P ro n N ds w0 X (OnePost N ds w0 X η (putS o.dst v (flatS ops vs (depOf o) σ ++ τ))) ops (flatS ops vs (depOf o) σ ++ τ) η [o])
  (t : DrawOps P ro n N ds w0 X ops vs σ η r vr) : DrawOps P ro n N ds w0 X ops vs σ η (o :: r) (v :: vr) := ⟨h, t⟩
theorem xc_drawN {id : Nat} {ops : List Oper} {vs : List Value} (hmix : P.follows .mixedOrders = true) (hbind : true = true) (hdeps : depsB 0 ops = true) (hdist : distB (dstsOf_ ops) = true) (hfresh : freshB σ (dstsOf_ ops) = true)
  (hop : DrawOps P ro n N ds w0 X ops vs σ η ops vs) (hlen : Nat.beq vs.length ops.length = true) (hQ : XQ N ds w0 X Q .normal (flatS ops vs (List.range ops.length) σ) η) : XC P ro n N ds w0 X Q σ η (.region id ops.toArray true) :=
 xc_draw vs hmix hlen hbind hdeps hdist hfresh hop hQ
theorem xo_fin {ops : List Oper} {d : Option Tmp} {u v : Value} (e : u = v) : XO P ro n N ds w0 X (OnePost N ds w0 X η (putS d v σ)) ops (putS d u σ) η [] := by
 subst e
 exact xo_nil fun a w ha hw => ⟨ha, hw⟩
end
theorem RO.fld {w : World} {X : Nat → Prop} {p : Addr} {cs : List Value} {j : Nat} {v : Value} (h : RO w X p cs) (hj : cs[j]? = some v) : RO w X (p.add j) [v] := fun i u hi => by
 cases i with
 | zero => simp at hi; subst hi; rw [Addr.add_zero']; exact h j _ hj
 | succ i => simp at hi
section
variable {P : Program} {ro : Option Nat} {n N : Nat} {ds : List Deferred} {w0 : World} {X : Nat → Prop} {Q : Exit → Act → World → Prop} {σ : Slots} {η : Hp} {ops rest : List Oper} {d : Option Tmp} {ty : TypeId} {pos : String} {aft : Array Edge} {g : Option (Nat × Bool)}
theorem xo_bs0 (T : Tys P) (sz : Nat) {t e : TypeId} {k0 : Nat} (hg : gS ops σ g = some true) (ht : look t T.el = some e) (hk : look e T.tk = some k0) (hN : dstOK N d = true)
  (h : ∀ b, XO P ro n N ds w0 X Q ops (putS d (.slice (some ⟨b, 0, none⟩) 0 0) σ) ((b, true, orow e sz 0 0 []) :: η) rest) : XO P ro n N ds w0 X Q ops σ η (⟨d, .buildSlice t 0 #[], ty, pos, aft, g⟩ :: rest) :=
 xo_base rfl hg fun a w ha hw => by
  have h1 := T.hel _ (look_mem ht)
  obtain ⟨h2, h3⟩ := T.htk _ (look_mem hk)
  simp only at h1 h3
  refine ⟨_, w.alloc (.cells #[] e), .slice (some ⟨w.heap.size, 0, none⟩) 0 0, ?_, .inl rfl, h _ _ _ (ha.put hN _) (hw.alloc _ _ ⟨#[], rfl, Nat.le_refl _, by simp [maxLen], by simp, by simp⟩)⟩
  simp [execOp, Instr.buildSlice, run_underlying h1, h3 w, Instr.fill, newRow, Array.range_zero']
theorem xo_appN (T : TysR P) {t e : TypeId} {s x : Operand} {z : Value} {sz by_ m k c : Nat} {A : Option Addr} {r : RowR} {xs news : List Value} {η0 : Hp} (hg : gS ops σ g = some true) (ht : look t T.el = some e) (hi : look e T.inf = some (z, sz, by_)) (hzs : z.cells.toList.length = sz) (hsz : Nat.blt 0 sz = true)
  (hs : ev σ s = some (valR r m)) (hx : ev σ x = some (.slice A k c)) (hη : η = hpR e sz r m xs ++ η0) (hl : xs.length = m * sz) (hn : news.length = k * sz) (hA : A = none → k = 0) (hnews : ∀ p, A = some p → ∀ w, WOK w0 X η w → ∀ j u, news[j]? = some u → w.cell? (p.add j) = some u) (h1 : ∀ u ∈ news, u.oneCell' = true) (h0 : r = none → m = 0)
  (hb : (m + k) * by_ ≤ 140737488355328) (hb0 : Nat.blt 0 by_ = true) (hN : dstOK N d = true)
  (h : ∀ r' : RowR, (r' = none → r = none ∧ k = 0) → XO P ro n N ds w0 X Q ops (putS d (valR r' (m + k)) σ) (hpR e sz r' (m + k) (xs ++ news) ++ η0) rest) :
  XO P ro n N ds w0 X Q ops σ η (⟨d, .call { callee := .builtin .append, args := #[s, x], argTypes := #[t, t] }, ty, pos, aft, g⟩ :: rest) := by
 subst hη
 refine xo_base rfl hg fun a w ha hw => ?_
 have hT := T.hel _ (look_mem ht)
 obtain ⟨i, hi1, hi2⟩ := Option.map_eq_some_iff.1 (T.hinf _ (look_mem hi))
 simp only [Prod.mk.injEq] at hi2
 obtain ⟨iz, isz, iby⟩ := hi2
 have hb1 : 0 < by_ := by simpa [Nat.blt_eq] using hb0
 have hlen : m + k ≤ 140737488355328 := Nat.le_trans (Nat.le_mul_of_pos_right _ hb1) hb
 cases A with
 | none =>
  have hk0 := hA rfl
  subst hk0
  have hnn : news = [] := List.eq_nil_of_length_eq_zero (by simpa using hn)
  subst hnn
  have hr : ∃ base cap, valR r m = .slice base m cap ∧ m ≤ cap := by
   cases r with
   | none => exact ⟨none, 0, by rw [h0 rfl]; rfl, by rw [h0 rfl]; exact Nat.le_refl _⟩
   | some p =>
    obtain ⟨o, h2, cur, rfl, h3, _⟩ := hw.bl (p.1, true, orow e sz m p.2 xs) (List.mem_append_left _ (List.mem_cons_self ..))
    exact ⟨_, _, rfl, h3⟩
  obtain ⟨base, cap, hv, hle⟩ := hr
  have hsrc : Src P i.size t (.slice none 0 c) 0 [] w := ⟨.inl ⟨e, hT⟩, fun w' => by simp [Builtin.lenOf], by simp [Builtin.firstCells], by simp [Builtin.firstCells], by simp, by simp⟩
  have hrun := run_append_nothing (P := P) w t t ty e i hT hi1 base m cap hle _ hsrc
  refine ⟨.value (valR r m), w, _, ?_, .inl rfl, h r (fun q => ⟨q, rfl⟩) _ _ (ha.put hN _) (by rw [List.append_nil]; exact hw)⟩
  simp only [execOp, resolve, invoke, builtin, Sem.run_bind, Sem.run_pure, Result.andThen_ok, List.map_toArray, List.map_cons, List.map_nil, ha.ev hs, ha.ev hx, hv, hrun]
 | some p =>
  have hown := hw.owns hl h0
  obtain ⟨v', w', hr, own', hgr, hnil, hat⟩ := run_append_own_at (P := P) w 0 t ty e i z sz by_ hT hi1 iz isz iby (by simpa using hzs) (by simpa [Nat.blt_eq] using hsz) (valR r m) m xs hown p k c news hn
   (fun j u hj => hnews p rfl w hw j u hj) h1 (by simp only [maxLen]; omega) hb (Nat.zero_le _)
  have hη0 := hw.sub (List.sublist_append_right (hpR e sz r m xs) η0)
  have hold : ∀ k, k < w.heap.size → (∀ p, r = some p → k ≠ p.1) → w'.heap[k]? = w.heap[k]? := fun k hk hne => hgr.block k hk (fun e' => by
   cases r with
   | none => simp [valR, Value.ownBlock] at e'
   | some p => simp [valR, Value.ownBlock] at e'; exact hne p rfl e')
  have hne0 : ∀ e' ∈ η0, ∀ p, r = some p → e'.1 ≠ p.1 := fun e' he p hp q => by
   subst hp
   have hnd := hw.nd
   simp only [hpR, List.cons_append, List.nil_append, List.map_cons, List.nodup_cons] at hnd
   exact hnd.1 (List.mem_map.2 ⟨e', he, q⟩)
  have hrow : ∀ p, r = some p → w0.heap.size ≤ p.1 ∨ X p.1 := fun p hp => by
   subst hp
   exact hw.ow (p.1, true, orow e sz m p.2 xs) (List.mem_append_left _ (List.mem_cons_self ..)) rfl
  have hk0 : Kx X w0 w' := ⟨hgr.os.trans hη0.kx.os, hgr.tape.trans hη0.kx.tape, hgr.output.trans hη0.kx.output, Nat.le_trans hη0.kx.size hgr.size, fun k hk hx => by
   refine (hold k (Nat.lt_of_lt_of_le hk hη0.kx.size) (fun p hp q => ?_)).trans (hη0.kx.block k hk hx)
   subst q
   rcases hrow p hp with h9 | h9
   ·exact absurd hk (Nat.not_lt.2 h9)
   ·exact hx h9⟩
  have hw0' : WOK w0 X η0 w' := ⟨hk0, fun e' he => by
   obtain ⟨o, h9, h10⟩ := hη0.bl e' he
   exact ⟨o, (hold _ (hη0.lt he) (hne0 e' he)).trans h9, h10⟩, hη0.nd, hη0.ow⟩
  obtain ⟨h2, h3⟩ := own'
  have run : ∀ v'', v' = v'' → (execOp a.eval ⟨d, .call { callee := .builtin .append, args := #[s, x], argTypes := #[t, t] }, ty, pos, aft, g⟩).run P w = .ok (.value v'') w' := fun v'' e' => by
   subst e'
   simp only [execOp, resolve, invoke, builtin, Sem.run_bind, Sem.run_pure, Result.andThen_ok, List.map_toArray, List.map_cons, List.map_nil, ha.ev hs, ha.ev hx, hr]
  rcases h3 with ⟨hv0, h3⟩ | ⟨g', cap', cur, hv0, _, h4, h5, h6, h7, h8⟩
  ·have hm0 : m = 0 ∧ k = 0 := by omega
   obtain ⟨hr0, _⟩ := hnil.1 hv0
   have hrn : r = none := by
    cases r with
    | none => rfl
    | some p => simp [valR] at hr0
   refine ⟨.value (valR none (m + k)), w', _, run _ hv0, .inl rfl, h none (fun _ => ⟨hrn, hm0.2⟩) _ _ (ha.put hN _) hw0'⟩
  ·refine ⟨.value (.slice (some ⟨g', 0, none⟩) (m + k) cap'), w', _, run _ hv0, .inl rfl, h (some (g', cap')) (by simp) _ _ (ha.put hN _) ?_⟩
   subst hv0
   have hg' : (∃ p, r = some p ∧ g' = p.1) ∨ g' = w.heap.size := by
    rcases hat with hat | hat
    ·left
     cases r with
     | none => simp [valR, Value.ownBlock] at hat
     | some p => simp [valR, Value.ownBlock] at hat; exact ⟨p, rfl, hat⟩
    ·right
     simpa [Value.ownBlock] using hat
   refine ⟨hk0, ?_, ?_, ?_⟩
   ·intro e' he
    rcases List.mem_append.1 he with he | he
    ·simp only [hpR, List.mem_singleton] at he
     subst he
     exact ⟨_, h4, cur, rfl, h5, h6, h7, h8⟩
    ·exact hw0'.bl e' he
   ·simp only [hpR, List.cons_append, List.nil_append, List.map_cons, List.nodup_cons]
    refine ⟨fun hm => ?_, hη0.nd⟩
    obtain ⟨e', he, q⟩ := List.mem_map.1 hm
    rcases hg' with ⟨p, hp, hg'⟩ | hg'
    ·exact hne0 e' he p hp (q.trans hg')
    ·have := hη0.lt he
     omega
   ·intro e' he hwr
    rcases List.mem_append.1 he with he | he
    ·simp only [hpR, List.mem_singleton] at he
     subst he
     rcases hg' with ⟨p, hp, hg'⟩ | hg'
     ·rw [show g' = p.1 from hg']; exact hrow p hp
     ·exact .inl (by rw [show g' = _ from hg']; exact hη0.kx.size)
    ·exact hη0.ow e' he hwr
end
def PostK (K : Act → World → Prop) : Exit → Act → World → Prop
 | .normal, a, w => K a w
 | _, _, _ => False
theorem wpIn_swapK {F : Fence} {n : Nat} {P : Program} {o : Oper} {a : Act} {w : World} {K K' : Act → World → Prop} {Q : Exit → Act → World → Prop}
  (h : o.wpIn F n P a w K (PostK K')) : o.wpIn F n P a w K Q := by
 unfold Oper.wpIn at *
 refine ⟨h.1, ?_⟩
 have hh := h.2
 generalize (o.semAt F.round a.eval).run P w = r at *
 cases r with
 | ok x w' =>
  cases x <;> simp only [Oper.uponIn] at hh ⊢ <;>
   first
    | exact hh
    | exact ⟨hh.1, CallsIn.mono hh.2 (fun e w'' he => by
      cases e with
      | returned v => exact he
      | panicked c => exact he.elim
      | outgrown => obtain ⟨_, _, h3⟩ := he; exact h3.elim)⟩
    | exact ⟨hh.1, RoundIn.mono hh.2 (fun e w'' he => by
      cases e with
      | returned v => exact he
      | panicked c => exact he.elim
      | outgrown => obtain ⟨_, _, h3⟩ := he; exact h3.elim)⟩
 | halt x w' => cases x <;> simp only [Oper.uponIn] at hh ⊢ <;> first | exact hh | exact hh.elim
section
variable {P : Program} {ro : Option Nat} {n N : Nat} {ds : List Deferred} {w0 : World} {X : Nat → Prop} {Q : Exit → Act → World → Prop} {σ : Slots} {η : Hp}
def GPost {γ : Type} (N : Nat) (ds : List Deferred) (w0 : World) (X : Nat → Prop) (ops : List Oper) (vs : γ → List Value) (H : γ → Hp) (Ok : List Nat → γ → Prop) (i : Nat) (L : List Nat) (g : γ) (d : Option Tmp) (σ : Slots) : Act → World → Prop := fun a w =>
 ∃ g', Ok (i :: L) g' ∧ (∀ j ∈ L, nth j (vs g') = nth j (vs g)) ∧ (∃ v, nth i (vs g') = some v ∧ SOK N ds (putS d v σ) a) ∧ WOK w0 X (H g') w
def DrawG {γ : Type} (P : Program) (ro : Option Nat) (n N : Nat) (ds : List Deferred) (w0 : World) (X : Nat → Prop) (ops : List Oper) (vs : γ → List Value) (H : γ → Hp) (Ok : List Nat → γ → Prop) (σ : Slots) : Nat → List Oper → Prop
 | _, [] => True
 | i, o :: r => (∀ L g, Ok L g → i ∉ L → (∀ j ∈ depOf o, j ∈ L) → ∀ τ, XO P ro n N ds w0 X (PostK (GPost N ds w0 X ops vs H Ok i L g o.dst (flatS ops (vs g) (depOf o) σ ++ τ))) ops (flatS ops (vs g) (depOf o) σ ++ τ) (H g) [o]) ∧ DrawG P ro n N ds w0 X ops vs H Ok σ (i + 1) r
theorem drawG_get {γ : Type} {ops : List Oper} {vs : γ → List Value} {H : γ → Hp} {Ok : List Nat → γ → Prop} : ∀ (l : List Oper) (k i : Nat) (o : Oper), DrawG P ro n N ds w0 X ops vs H Ok σ k l → l[i]? = some o →
  ∀ L g, Ok L g → k + i ∉ L → (∀ j ∈ depOf o, j ∈ L) → ∀ τ, XO P ro n N ds w0 X (PostK (GPost N ds w0 X ops vs H Ok (k + i) L g o.dst (flatS ops (vs g) (depOf o) σ ++ τ))) ops (flatS ops (vs g) (depOf o) σ ++ τ) (H g) [o]
 | [], k, i, o, _, h => by simp at h
 | x :: r, k, 0, o, h, h1 => by
  simp at h1
  subst h1
  exact h.1
 | x :: r, k, i + 1, o, h, h1 => by
  have := drawG_get r (k + 1) i o h.2 (by simpa using h1)
  rw [show k + 1 + i = k + (i + 1) by omega] at this
  exact this
theorem DrawG.nil {γ : Type} {ops : List Oper} {vs : γ → List Value} {H : γ → Hp} {Ok : List Nat → γ → Prop} {i : Nat} : DrawG P ro n N ds w0 X ops vs H Ok σ i [] := trivial
theorem DrawG.cons {γ : Type} {ops : List Oper} {vs : γ → List Value} {H : γ → Hp} {Ok : List Nat → γ → Prop} {i : Nat} {o : Oper} {r : List Oper} (h : ∀ L g, Ok L g → i ∉ L → (∀ j ∈ depOf o, j ∈ L) → ∀ τ, XO P ro n N ds w0 X (PostK (GPost N ds w0 X ops vs H Ok i L g o.dst (flatS ops (vs g) (depOf o) σ ++ τ))) ops (flatS ops (vs g) (depOf o) σ ++ τ) (H g) [o])
  (t : DrawG P ro n N ds w0 X ops vs H Ok σ (i + 1) r) : DrawG P ro n N ds w0 X ops vs H Ok σ i (o :: r) := ⟨h, t⟩
theorem DrawG.pure {γ : Type} {ops : List Oper} {vs : γ → List Value} {H : γ → Hp} {Ok : List Nat → γ → Prop} {i : Nat} {o : Oper} {r : List Oper} (hk : ∀ L g, Ok L g → Ok (i :: L) g)
  (h : ∀ L g, Ok L g → i ∉ L → (∀ j ∈ depOf o, j ∈ L) → ∀ τ, ∃ v, nth i (vs g) = some v ∧ XO P ro n N ds w0 X (OnePost N ds w0 X (H g) (putS o.dst v (flatS ops (vs g) (depOf o) σ ++ τ))) ops (flatS ops (vs g) (depOf o) σ ++ τ) (H g) [o])
  (t : DrawG P ro n N ds w0 X ops vs H Ok σ (i + 1) r) : DrawG P ro n N ds w0 X ops vs H Ok σ i (o :: r) := by
 refine ⟨fun L g hg hi hd τ => ?_, t⟩
 obtain ⟨v, hv, hx⟩ := h L g hg hi hd τ
 intro a w ha hw
 have hr := hx a w ha hw
 unfold wpListIn at hr ⊢
 split at hr
 ·rename_i hw1
  rw [if_pos hw1]
  exact wpIn_swap (Oper.wpIn_mono (fun a' w' h' => show wpListIn _ _ _ _ _ [] a' w' from ⟨g, hk L g hg, fun _ _ => rfl, ⟨v, hv, h'.1⟩, h'.2⟩) hr)
 ·rename_i hw1
  rw [if_neg hw1]
  exact ⟨fun _ _ => trivial, ⟨g, hk L g hg, fun _ _ => rfl, ⟨v, hv, hr.2.1⟩, hr.2.2⟩⟩
theorem xc_drawG {γ : Type} {id : Nat} {ops : List Oper} (vs : γ → List Value) (H : γ → Hp) (Ok : List Nat → γ → Prop) (g0 : γ) (hOk0 : Ok [] g0) (hH0 : H g0 = η) (hlv : ∀ g, (vs g).length = ops.length) (hmix : P.follows .mixedOrders = true) (hbind : true = true) (hdeps : depsB 0 ops = true) (hdist : distB (dstsOf_ ops) = true) (hfresh : freshB σ (dstsOf_ ops) = true)
  (hop : DrawG P ro n N ds w0 X ops vs H Ok σ 0 ops) (hQ : ∀ L g, Ok L g → (∀ j, j < ops.length → j ∈ L) → XQ N ds w0 X Q .normal (flatS ops (vs g) (List.range ops.length) σ) (H g)) : XC P ro n N ds w0 X Q σ η (.region id ops.toArray true) := by
 have hdis := fun i j k => distB_get ops i j k hdist
 have hfr : ∀ j d, nthD j ops = some d → slot d σ = none := fun j d h => by
  rw [nthD_eq] at h
  obtain ⟨o, ho, ho2⟩ := Option.bind_eq_some_iff.1 h
  exact freshB_get _ d hfresh (List.mem_filterMap.2 ⟨o, List.mem_of_getElem? ho, ho2⟩)
 have hnot : ∀ k u, slot k σ = some u → ∀ j, nthD j ops ≠ some k := fun k u h j e => by rw [hfr j k e] at h; cases h
 -- those of some are those of more
 have hmore : ∀ (g : γ) (L M : List Nat), (∀ j ∈ L, j ∈ M) → ∀ k u, slot k (flatS ops (vs g) L σ) = some u → slot k (flatS ops (vs g) M σ) = some u := by
  intro g L M h k u hk
  rcases flat_a L hk with ⟨j, hj, h1, h2⟩ | h1
  ·exact flat_b hdis h1 h2 M (h j hj)
  ·rw [flat_c (hnot k u h1) M]; exact h1
 intro a w ha hw
 refine wpIn_region_any hmix ?_
 have key : ∀ (fuel : Nat) (L : List Nat) (listed : Array Bool) (a : Act) (w : World), listed.size = ops.length → (∀ j, listed.getD j false = true ↔ j ∈ L) → (∀ j ∈ L, j < ops.length) → ((List.range ops.length).filter fun j => !listed.getD j false).length ≤ fuel → ∀ g, Ok L g → SOK N ds (flatS ops (vs g) L σ) a → WOK w0 X (H g) w →
   wpAnyIn (wideR ro) n P .any ops.toArray Q fuel listed a w := by
  intro fuel
  induction fuel with
  | zero =>
   intro L listed a w hsz hL hLb hcnt g hOk ha hw
   have hall : ∀ j, j < ops.length → j ∈ L := by
    intro j hj
    have h0 := List.length_eq_zero_iff.1 (Nat.le_zero.1 hcnt)
    rw [List.filter_eq_nil_iff] at h0
    have := h0 j (List.mem_range.2 hj)
    exact (hL j).1 (by simpa using this)
   refine ⟨?_, hQ L g hOk hall a w (ha.le (hmore g _ _ (fun j hj => hall j (List.mem_range.1 hj)))) hw⟩
   apply List.eq_nil_iff_forall_not_mem.2
   intro j hj
   obtain ⟨h1, o, h2, _⟩ := mem_ready.1 hj
   have hlt : j < ops.length := by have := (Array.getElem?_eq_some_iff.1 h2).1; simpa using this
   have h3 := (hL j).2 (hall j hlt)
   rw [Array.getD_eq_getD_getElem?] at h1 h3
   rw [Array.getElem?_eq_getElem (by rw [hsz]; exact hlt)] at h1 h3
   simp at h1 h3
   rw [h1] at h3
   cases h3
  | succ fuel ih =>
   intro L listed a w hsz hL hLb hcnt g hOk ha hw
   refine ⟨fun hnil => ?_, fun i hi => ?_⟩
   ·-- nothing is ready: all are listed
    have hall : ∀ k j, j ≤ k → j < ops.length → j ∈ L := by
     intro k
     induction k with
     | zero =>
      intro j hj hlt
      by_cases hm : j ∈ L
      ·exact hm
      ·exfalso
       have : j ∈ Region.ready .any ops.toArray listed := by
        refine mem_ready.2 ⟨?_, ops[j], by simp [List.getElem?_eq_getElem hlt], ?_⟩
        ·have h3 : listed.getD j false ≠ true := fun q => hm ((hL j).1 q)
         rw [Array.getD_eq_getD_getElem?, Array.getElem?_eq_getElem (by rw [hsz]; exact hlt)] at h3 ⊢
         simpa using h3
        ·intro e he hbd
         have h4 := depsB_get ops 0 j ops[j] hdeps (List.getElem?_eq_getElem hlt) e.on (List.mem_map.2 ⟨e, List.mem_filter.2 ⟨by simpa using he, hbd⟩, rfl⟩)
         omega
       rw [hnil] at this
       cases this
     | succ k ihk =>
      intro j hj hlt
      by_cases hjk : j ≤ k
      ·exact ihk j hjk hlt
      by_cases hm : j ∈ L
      ·exact hm
      ·exfalso
       have : j ∈ Region.ready .any ops.toArray listed := by
        refine mem_ready.2 ⟨?_, ops[j], by simp [List.getElem?_eq_getElem hlt], ?_⟩
        ·have h3 : listed.getD j false ≠ true := fun q => hm ((hL j).1 q)
         rw [Array.getD_eq_getD_getElem?, Array.getElem?_eq_getElem (by rw [hsz]; exact hlt)] at h3 ⊢
         simpa using h3
        ·intro e he hbd
         have h4 := depsB_get ops 0 j ops[j] hdeps (List.getElem?_eq_getElem hlt) e.on (List.mem_map.2 ⟨e, List.mem_filter.2 ⟨by simpa using he, hbd⟩, rfl⟩)
         exact (hL e.on).2 (ihk e.on (by omega) (by omega))
       rw [hnil] at this
       cases this
    exact hQ L g hOk (fun j hj => hall j j (Nat.le_refl _) hj) a w (ha.le (hmore g _ _ (fun j hj => hall j j (Nat.le_refl _) (List.mem_range.1 hj)))) hw
   ·obtain ⟨h1, o, h2, h3⟩ := mem_ready.1 hi
    have hlt : i < ops.length := by have := (Array.getElem?_eq_some_iff.1 h2).1; simpa using this
    have ho : ops[i]? = some o := by simpa using h2
    have hnl : ¬ i ∈ L := fun q => by
     have h4 := (hL i).2 q
     rw [Array.getD_eq_getD_getElem?, Array.getElem?_eq_getElem (by rw [hsz]; exact hlt)] at h1 h4
     simp at h1 h4
     rw [h1] at h4
     cases h4
    have hdL : ∀ j ∈ depOf o, j ∈ L := by
     intro j hj
     obtain ⟨e, he, rfl⟩ := List.mem_map.1 hj
     obtain ⟨he, hb⟩ := List.mem_filter.1 he
     exact (hL e.on).1 (h3 e (by simpa using he) hb)
    have hcons := hmore g (depOf o) L hdL
    have hs : SOK N ds (flatS ops (vs g) (depOf o) σ ++ flatS ops (vs g) L σ) a := ha.le fun k u hk => by
     rw [slot_app] at hk
     cases hd : slot k (flatS ops (vs g) (depOf o) σ) with
     | some x => rw [hd] at hk; cases hk; exact hcons k _ hd
     | none => rw [hd] at hk; exact hk
    have hrun := drawG_get ops 0 i o hop ho L g hOk (by rwa [Nat.zero_add]) hdL (flatS ops (vs g) L σ) a w hs hw
    rw [Nat.zero_add] at hrun
    have hnext : ∀ a' w', GPost N ds w0 X ops vs H Ok i L g o.dst (flatS ops (vs g) (depOf o) σ ++ flatS ops (vs g) L σ) a' w' → wpAnyIn (wideR ro) n P .any ops.toArray Q fuel (listed.setIfInBounds i true) a' w' := by
     rintro a' w' ⟨g', hOk', hsame, ⟨v, hv, ha'⟩, hw'⟩
     have hflat : flatS ops (vs g') L σ = flatS ops (vs g) L σ := by
      clear hOk hOk' ih hs hrun ha hw ha' hw' hL hLb hnl hdL hcons hcnt
      induction L with
      | nil => rfl
      | cons j L ihL =>
       unfold flatS
       rw [ihL (fun j hj => hsame j (List.mem_cons_of_mem _ hj))]
       congr 1
       unfold dstv
       rw [hsame j (List.mem_cons_self ..)]
     refine ih (i :: L) _ a' w' (by simp [hsz]) ?_ ?_ ?_ g' hOk' (ha'.le ?_) hw'
     ·intro j
      rw [Array.getD_eq_getD_getElem?]
      by_cases e : i = j
      ·subst e
       rw [Array.getElem?_setIfInBounds_self, if_pos (by rw [hsz]; exact hlt)]
       simp
      ·rw [Array.getElem?_setIfInBounds_ne e, ← Array.getD_eq_getD_getElem?, hL j]
       simp [show ¬ j = i from fun q => e q.symm]
     ·intro j hj
      rcases List.mem_cons.1 hj with rfl | hj
      ·exact hlt
      ·exact hLb j hj
     ·have : ((List.range ops.length).filter fun j => !(listed.setIfInBounds i true).getD j false).length < ((List.range ops.length).filter fun j => !listed.getD j false).length := by
       refine filter_less (i := i) ?_ (List.mem_range.2 hlt) ?_ ?_
       ·intro j hj hq
        by_cases e : i = j
        ·subst e
         rw [Array.getD_eq_getD_getElem?, Array.getElem?_setIfInBounds_self, if_pos (by rw [hsz]; exact hlt)] at hq
         simp at hq
        ·rw [Array.getD_eq_getD_getElem?, Array.getElem?_setIfInBounds_ne e, ← Array.getD_eq_getD_getElem?] at hq
         exact hq
       ·have h4 : listed.getD i false ≠ true := fun q => hnl ((hL i).1 q)
        simpa using h4
       ·rw [Array.getD_eq_getD_getElem?, Array.getElem?_setIfInBounds_self, if_pos (by rw [hsz]; exact hlt)]
        simp
      omega
     ·intro k u hk
      unfold flatS at hk
      rw [slot_app] at hk
      cases hd : slot k (dstv ops (vs g') i) with
      | some x =>
       rw [hd] at hk
       cases hk
       obtain ⟨h5, h6⟩ := slot_dstv.1 hd
       rw [hv] at h6
       cases h6
       rw [nthD_eq, ho] at h5
       simp only [Option.bind_some] at h5
       rw [h5]
       unfold putS slot
       simp
      | none =>
       rw [hd] at hk
       rw [hflat] at hk
       have h7 : slot k (flatS ops (vs g) (depOf o) σ ++ flatS ops (vs g) L σ) = some u := by
        rw [slot_app]
        cases hd2 : slot k (flatS ops (vs g) (depOf o) σ) with
        | some x => have hk' : slot k (flatS ops (vs g) L σ) = some u := hk; have := hcons k x hd2; rw [hk'] at this; exact this.symm
        | none => exact hk
       cases hdo : o.dst with
       | none => exact h7
       | some d =>
        unfold putS slot
        have hne : Nat.beq d k = false := by
         cases hb : Nat.beq d k with
         | false => rfl
         | true =>
          exfalso
          have e := Nat.eq_of_beq_eq_true hb
          subst e
          rw [slot_dstv.2 ⟨by rw [nthD_eq, ho]; exact hdo, hv⟩] at hd
          cases hd
        simp only [hne, cond_false]
        exact h7
    unfold wpOpIn
    simp only [h2]
    unfold wpListIn at hrun
    split at hrun
    ·rename_i hw1
     rw [if_pos hw1]
     exact wpIn_swapK (Oper.wpIn_mono (fun a' w' h => hnext a' w' h) hrun)
    ·rename_i hw1
     rw [if_neg hw1]
     exact ⟨fun _ _ => trivial, hnext _ _ hrun.2⟩
 refine key _ [] _ a w.drew (by simp) (fun j => ?_) (fun j hj => by cases hj) ?_ g0 hOk0 ha (by rw [hH0]; exact hw.drew)
 ·constructor
  ·intro h
   rw [Array.getD_eq_getD_getElem?, Array.getElem?_replicate] at h
   split at h <;> simp at h
  ·intro h
   cases h
 ·have := List.length_filter_le (fun j => !(Array.replicate ops.toArray.size false).getD j false) (List.range ops.length)
  simpa using this
end
def ovr : Nat → List (Nat × Value) → List Value → List Value
 | _, _, [] => []
 | i, ws, c :: cs => (match look i ws with
  | some v => v
  | none => c) :: ovr (i + 1) ws cs
theorem ovr_len (ws : List (Nat × Value)) : ∀ (cs : List Value) (i : Nat), (ovr i ws cs).length = cs.length
 | [], _ => rfl
 | c :: cs, i => by simp [ovr, ovr_len ws cs (i + 1)]
inductive SameLen : List Value → List Oper → Prop
 | nil : SameLen [] []
 | cons {cs : List Value} {o : Oper} {ops : List Oper} (h : SameLen cs ops) {c : Value} : SameLen (c :: cs) (o :: ops)
theorem SameLen.len {cs : List Value} {ops : List Oper} (h : SameLen cs ops) : cs.length = ops.length := by
 induction h with
 | nil => rfl
 | cons _ ih => simp [ih]
structure GV where
 b : Nat
 c : Nat
 rr : RowR
def gv0 : GV := ⟨0, 0, none⟩
def okN (F : List GV → Prop) (nd E : List Nat) (U : List (List Nat)) (L : List Nat) (g : List GV) : Prop := g.length ≤ E.length ∧ (∀ j ∈ L, nd.getD j 0 ≤ g.length) ∧ (∀ k, k < g.length → E.getD k 0 ∈ L ∧ ∀ j ∈ U.getD k [], j ∈ L) ∧ F g
section
variable {P : Program} {ro : Option Nat} {n N : Nat} {ds : List Deferred} {w0 : World} {X : Nat → Prop} {Q : Exit → Act → World → Prop} {σ : Slots} {η : Hp} {ops : List Oper} {vs : List GV → List Value} {H : List GV → Hp} {nd E : List Nat} {U : List (List Nat)} {F : List GV → Prop}
def EPost (F : List GV → Prop) (N : Nat) (ds : List Deferred) (w0 : World) (X : Nat → Prop) (vs : List GV → List Value) (H : List GV → Hp) (i : Nat) (g : List GV) (d : Option Tmp) (σ : Slots) : Act → World → Prop := fun a w =>
 ∃ x : GV, (∃ v, nth i (vs (g ++ [x])) = some v ∧ SOK N ds (putS d v σ) a) ∧ WOK w0 X (H (g ++ [x])) w ∧ F (g ++ [x])
theorem xo_finE {i : Nat} {g : List GV} {d : Option Tmp} {σ : Slots} {v : Value} (x : GV) (hv : nth i (vs (g ++ [x])) = some v) (hF : F (g ++ [x])) : XO P ro n N ds w0 X (PostK (EPost F N ds w0 X vs H i g d σ)) ops (putS d v σ) (H (g ++ [x])) [] := by
 intro a w ha hw
 exact ⟨x, ⟨v, hv, ha⟩, hw, hF⟩
theorem DrawE.nil {i : Nat} : DrawG P ro n N ds w0 X ops vs H (okN F nd E U) σ i [] := trivial
theorem DrawE.pure {i : Nat} {o : Oper} {r : List Oper} (m u : Nat) (hm : nd.getD i 0 = m) (hu : u = E.length ∨ i ∈ U.getD u []) (hle : ∀ L g, okN F nd E U L g → (∀ j ∈ depOf o, j ∈ L) → m ≤ g.length)
  (hx : ∀ g, m ≤ g.length → g.length ≤ u → F g → ∀ τ, ∃ v, nth i (vs g) = some v ∧ XO P ro n N ds w0 X (OnePost N ds w0 X (H g) (putS o.dst v (flatS ops (vs g) (depOf o) σ ++ τ))) ops (flatS ops (vs g) (depOf o) σ ++ τ) (H g) [o])
  (t : DrawG P ro n N ds w0 X ops vs H (okN F nd E U) σ (i + 1) r) : DrawG P ro n N ds w0 X ops vs H (okN F nd E U) σ i (o :: r) := by
 refine ⟨fun L g hg hi hd τ => ?_, t⟩
 have hmg := hle L g hg hd
 have hok : okN F nd E U (i :: L) g := ⟨hg.1, fun j hj => by
  rcases List.mem_cons.1 hj with rfl | hj
  ·rw [hm]; exact hmg
  ·exact hg.2.1 j hj, fun k hk => ⟨List.mem_cons_of_mem _ (hg.2.2.1 k hk).1, fun j hj => List.mem_cons_of_mem _ ((hg.2.2.1 k hk).2 j hj)⟩, hg.2.2.2⟩
 have hgu : g.length ≤ u := by
  rcases hu with rfl | hu
  ·exact hg.1
  ·by_cases h : u < g.length
   ·exact absurd ((hg.2.2.1 u h).2 i hu) hi
   ·omega
 obtain ⟨v, hv, hx⟩ := hx g hmg hgu hg.2.2.2 τ
 intro a w ha hw
 have hr := hx a w ha hw
 unfold wpListIn at hr ⊢
 split at hr
 ·rename_i hw1
  rw [if_pos hw1]
  exact wpIn_swap (Oper.wpIn_mono (fun a' w' h' => show wpListIn _ _ _ _ _ [] a' w' from ⟨g, hok, fun _ _ => rfl, ⟨v, hv, h'.1⟩, h'.2⟩) hr)
 ·rename_i hw1
  rw [if_neg hw1]
  exact ⟨fun _ _ => trivial, ⟨g, hok, fun _ _ => rfl, ⟨v, hv, hr.2.1⟩, hr.2.2⟩⟩
theorem DrawE.eff {i : Nat} {o : Oper} {r : List Oper} (k : Nat) (hE : E.getD k 0 = i) (hk : k < E.length) (hnd : nd.getD i 0 = k + 1) (hU : ∀ j ∈ U.getD k [], j ∈ depOf o) (hst : ∀ j g a, nd.getD j 0 ≤ g.length → nth j (vs (g ++ [a])) = nth j (vs g))
  (hle : ∀ L g, okN F nd E U L g → (∀ j ∈ depOf o, j ∈ L) → k ≤ g.length)
  (hx : ∀ g, g.length = k → F g → ∀ τ, XO P ro n N ds w0 X (PostK (EPost F N ds w0 X vs H i g o.dst (flatS ops (vs g) (depOf o) σ ++ τ))) ops (flatS ops (vs g) (depOf o) σ ++ τ) (H g) [o])
  (t : DrawG P ro n N ds w0 X ops vs H (okN F nd E U) σ (i + 1) r) : DrawG P ro n N ds w0 X ops vs H (okN F nd E U) σ i (o :: r) := by
 refine ⟨fun L g hg hi hd τ => ?_, t⟩
 have hkg := hle L g hg hd
 have hgk : g.length = k := by
  by_cases h : k < g.length
  ·exact absurd (hE ▸ (hg.2.2.1 k h).1) hi
  ·omega
 have hh := hx g hgk hg.2.2.2 τ
 intro a w ha hw
 have hr := hh a w ha hw
 have key : ∀ a' w', EPost F N ds w0 X vs H i g o.dst (flatS ops (vs g) (depOf o) σ ++ τ) a' w' → GPost N ds w0 X ops vs H (okN F nd E U) i L g o.dst (flatS ops (vs g) (depOf o) σ ++ τ) a' w' := by
  rintro a' w' ⟨x, h1, h2, h3⟩
  refine ⟨g ++ [x], ⟨by simp; omega, fun j hj => ?_, fun q hq => ?_, h3⟩, fun j hj => hst j g x (hg.2.1 j hj), h1, h2⟩
  ·rcases List.mem_cons.1 hj with rfl | hj
   ·rw [hnd, List.length_append, List.length_singleton]; omega
   ·have := hg.2.1 j hj; rw [List.length_append, List.length_singleton]; omega
  ·by_cases e : q = k
   ·subst e
    exact ⟨by rw [hE]; exact List.mem_cons_self .., fun j hj => List.mem_cons_of_mem _ (hd j (hU j hj))⟩
   ·have := hg.2.2.1 q (by simp at hq; omega)
    exact ⟨List.mem_cons_of_mem _ this.1, fun j hj => List.mem_cons_of_mem _ (this.2 j hj)⟩
 unfold wpListIn at hr ⊢
 split at hr
 ·rename_i hw1
  rw [if_pos hw1]
  exact wpIn_swapK (Oper.wpIn_mono (fun a' w' h' => show wpListIn _ _ _ _ _ [] a' w' from key a' w' h') hr)
 ·rename_i hw1
  rw [if_neg hw1]
  exact ⟨fun _ _ => trivial, key _ _ hr.2⟩
theorem xc_drawE {id : Nat} (ws : List GV → List (Nat × Value)) (Hf : Hp → List GV → Hp) (F : List GV → Prop) (nd E : List Nat) (U : List (List Nat)) (hF0 : F []) {cs : List Value} (hlv : SameLen cs ops) (hH0 : Hf η [] = η) (hmix : P.follows .mixedOrders = true) (hbind : true = true) (hdeps : depsB 0 ops = true) (hdist : distB (dstsOf_ ops) = true) (hfresh : freshB σ (dstsOf_ ops) = true)
  (hE : E.all (fun e => Nat.blt e ops.length && decide (nd.getD e 0 = E.idxOf e + 1)) = true) (hEn : E.Nodup)
  (hop : DrawG P ro n N ds w0 X ops (fun g => ovr 0 (ws g) cs) (Hf η) (okN F nd E U) σ 0 ops) (hQ : ∀ g, g.length = E.length → F g → XQ N ds w0 X Q .normal (flatS ops (ovr 0 (ws g) cs) (List.range ops.length) σ) (Hf η g)) : XC P ro n N ds w0 X Q σ η (.region id ops.toArray true) := by
 refine xc_drawG (fun g => ovr 0 (ws g) cs) (Hf η) (okN F nd E U) [] ⟨Nat.zero_le _, by simp, by simp, hF0⟩ hH0 (fun g => (ovr_len ..).trans hlv.len) hmix hbind hdeps hdist hfresh hop fun L g hg hall => hQ g ?_ hg.2.2.2
 refine Nat.le_antisymm hg.1 ?_
 by_cases he : E.length = 0
 ·omega
 ·have hlt : E.length - 1 < E.length := by omega
  have h1 := List.all_eq_true.1 hE _ (List.getElem_mem hlt)
  rw [Bool.and_eq_true, decide_eq_true_eq, Nat.blt_eq] at h1
  have h2 := hg.2.1 _ (hall _ h1.1)
  rw [h1.2] at h2
  have h3 : E.idxOf E[E.length - 1] = E.length - 1 := hEn.idxOf_getElem _ hlt
  omega
end
end Go.Proofs.YtommeljlfkmpjaaDoor
