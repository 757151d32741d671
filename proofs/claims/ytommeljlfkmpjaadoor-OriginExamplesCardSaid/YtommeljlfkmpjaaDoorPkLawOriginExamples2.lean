/- SX: rows of the call's own: append, make, elements at a computed place. No program in sigh -/
import Derived.Test.YtommeljlfkmpjaaDoorPkLawOriginExamples1
import Derived.Maps.AppendAt
import Derived.Deep.OwnRows
import Derived.Test.YtommeljlfkmpjaaDoorProg
import Derived.KernelRfl
import Derived.WalkKit
import Derived.WalkSpells
import Derived.WalkLawsBesides
import Derived.Laws.EntriesVeiled
import Derived.Laws.Rows
import Derived.Laws.Cells
import Derived.RangeFuncCalls
import Derived.OrdersIn
import Derived.Below
import Derived.Sort.Grow
import Derived.Deep.Draws
import Derived.IntWalk
import Derived.Sort.LoopGhostIn
import Derived.Shelf.Abstract
set_option linter.unusedVariables false
set_option linter.unusedSimpArgs false
namespace Go.Proofs.YtommeljlfkmpjaaDoor
open Go.RowKit Go.MapKept
attribute [local go_sem] Oper.semAt_some
def orow (e : TypeId) (sz n cap : Nat) (xs : List Value) : HP := fun o => ∃ cur : Array Value, o = .cells cur e (0, 0) ∧ n ≤ cap ∧ cap ≤ maxLen ∧ cur.size = cap * sz ∧ cur.toList.take (n * sz) = xs
abbrev RowR := Option (Nat × Nat)
def valR (r : RowR) (n : Nat) : Value := match r with
 | none => .slice none 0 0
 | some p => .slice (some ⟨p.1, 0, none⟩) n p.2
def hpR (e : TypeId) (sz : Nat) (r : RowR) (n : Nat) (xs : List Value) : Hp := match r with
 | none => []
 | some p => [(p.1, true, orow e sz n p.2 xs)]
theorem Upd.app {b : Nat} {φ' : HP} {r r' : Hp} (h : Upd b φ' r r') : ∀ l : Hp, Upd b φ' (l ++ r) (l ++ r')
 | [] => h
 | e :: l => .tail (h.app l)
structure TysR (P : Program) extends Tys P where
 inf : List (Nat × Value × Nat × Nat)
 hinf : ∀ p ∈ inf, (P.info? p.1).map (fun i => (i.zero, i.size, i.bytes)) = some (some p.2.1, p.2.2.1, p.2.2.2)
structure TysB (P : Program) extends TysR P where
 bl : List (Nat × List (Nat × Nat) × Array Value)
 hbl : ∀ p ∈ bl, ∀ (parts : Array (Nat × Value)) (cs : Array Value) (w : World), Instr.fill (fun i => p.2.1[i]?) p.2.2 parts.toList = some cs → (Instr.build p.1 parts).run P w = .ok (.agg cs) w
def evp (σ : Slots) : List (Nat × Operand) → Option (List (Nat × Value))
 | [] => some []
 | p :: r => match ev σ p.2, evp σ r with
  | some v, some vs => some ((p.1, v) :: vs)
  | _, _ => none
theorem SOK.evp {N : Nat} {ds : List Deferred} {σ : Slots} {a : Act} (h : SOK N ds σ a) : ∀ {xs : List (Nat × Operand)} {vs : List (Nat × Value)}, evp σ xs = some vs → xs.map (fun p => (p.1, a.eval p.2)) = vs
 | [], vs, e => by cases e; rfl
 | x :: r, vs, e => by
  unfold Go.Proofs.YtommeljlfkmpjaaDoor.evp at e
  split at e
  ·rename_i v ws h1 h2
   cases e
   rw [List.map_cons, h.ev h1, h.evp h2]
  ·cases e
def fillL : List (Nat × Nat) → List Value → List (Nat × Value) → Option (List Value)
 | _, cs, [] => some cs
 | pl, cs, p :: r => match nth p.1 pl with
  | some q => match Nat.beq p.2.cells.toList.length q.2, setSeg q.1 p.2.cells.toList cs with
   | true, some cs' => fillL pl cs' r
   | _, _ => none
  | none => none
theorem foldl_set : ∀ (vs : List Value) (o j : Nat) (cs cs' : List Value), setSeg (o + j) vs cs = some cs' → o + j + vs.length ≤ cs.length ∧ (vs.zipIdx j).foldl (fun (a : Array Value) (p : Value × Nat) => a.setIfInBounds (o + p.2) p.1) cs.toArray = cs'.toArray := by
 have put1 : ∀ (k : Nat) (v : Value) (vs cs cs' : List Value), setSeg k (v :: vs) cs = some cs' → k < cs.length ∧ setSeg (k + 1) vs (cs.set k v) = some cs' := by
  intro k
  induction k with
  | zero =>
   intro v vs cs cs' h
   cases cs with
   | nil => simp [setSeg] at h
   | cons x r =>
    simp only [setSeg] at h
    split at h
    ·rename_i r' hr
     cases h
     refine ⟨by simp, ?_⟩
     simp only [List.set_cons_zero, setSeg, Nat.zero_add, hr]
    ·cases h
  | succ k ih =>
   intro v vs cs cs' h
   cases cs with
   | nil => simp [setSeg] at h
   | cons x r =>
    simp only [setSeg] at h
    split at h
    ·rename_i r' hr
     cases h
     have := ih v vs r r' hr
     refine ⟨by simp; exact this.1, ?_⟩
     simp only [List.set_cons_succ, setSeg, this.2]
    ·cases h
 have done : ∀ (k : Nat) (cs cs' : List Value), setSeg k [] cs = some cs' → cs' = cs ∧ k ≤ cs.length := by
  intro k
  induction k with
  | zero => intro cs cs' h; simp [setSeg] at h; exact ⟨h.symm, Nat.zero_le _⟩
  | succ k ih =>
   intro cs cs' h
   cases cs with
   | nil => simp [setSeg] at h
   | cons x r =>
    simp only [setSeg] at h
    split at h
    ·rename_i r' hr
     cases h
     have := ih r r' hr
     exact ⟨by rw [this.1], by simp; exact this.2⟩
    ·cases h
 intro vs
 induction vs with
 | nil =>
  intro o j cs cs' h
  have := done _ _ _ h
  exact ⟨by simpa using this.2, by simp [this.1]⟩
 | cons v vs ih =>
  intro o j cs cs' h
  obtain ⟨h1, h2⟩ := put1 _ _ _ _ _ h
  have h3 := ih o (j + 1) (cs.set (o + j) v) cs' (by rw [show o + (j + 1) = o + j + 1 from rfl]; exact h2)
  simp only [List.length_set] at h3
  refine ⟨by simp only [List.length_cons]; omega, ?_⟩
  simp only [List.zipIdx_cons, List.foldl_cons]
  rw [← h3.2]
  congr 1
  simp
theorem fillL_eq (pl : List (Nat × Nat)) : ∀ (ps : List (Nat × Value)) (cs cs' : List Value), fillL pl cs ps = some cs' → Instr.fill (fun i => pl[i]?) cs.toArray ps = some cs'.toArray
 | [], cs, cs', h => by simp [fillL] at h; simp [Instr.fill, h]
 | p :: r, cs, cs', h => by
  unfold fillL at h
  split at h
  ·rename_i q hq
   split at h
   ·rename_i c2 h1 h2
    have ih := fillL_eq pl r c2 cs' h
    rw [nth_eq] at hq
    have h3 := Nat.eq_of_beq_eq_true h1
    obtain ⟨h4, h5⟩ := foldl_set p.2.cells.toList q.1 0 cs c2 (by simpa using h2)
    obtain ⟨qo, qs⟩ := q
    simp only at h3 h4 h5
    simp only [Instr.fill, hq]
    have h6 : p.2.cells.size = qs := by rw [← h3]; simp
    rw [if_neg (by simp only [h6, ne_eq, not_true_eq_false, decide_false, Bool.false_or, decide_eq_true_eq, gt_iff_lt, List.size_toArray, Nat.not_lt]; simp at h4; omega)]
    have h7 : p.2.cells.zipIdx.foldl (fun (cs : Array Value) (x : Value × Nat) => cs.setIfInBounds (qo + x.2) x.1) cs.toArray = c2.toArray := by
     rw [← h5, ← Array.foldl_toList]
     congr 1
     simp
    rw [← ih, ← h7]
   ·cases h
  ·cases h
section
variable {P : Program} {ro : Option Nat} {n N : Nat} {ds : List Deferred} {w0 : World} {X : Nat → Prop} {Q : Exit → Act → World → Prop} {ops : List Oper} {σ : Slots} {η : Hp} {rest : List Oper}
variable {d : Option Tmp} {ty : TypeId} {pos : String} {aft : Array Edge} {g : Option (Nat × Bool)}
theorem WOK.owns {w : World} {e : TypeId} {sz m : Nat} {r : RowR} {xs : List Value} {η0 : Hp} (h : WOK w0 X (hpR e sz r m xs ++ η0) w) (hx : xs.length = m * sz) (h0 : r = none → m = 0) : w.ownsRow 0 e sz (valR r m) m xs := by
 refine ⟨hx, ?_⟩
 cases r with
 | none => exact .inl ⟨rfl, h0 rfl⟩
 | some p =>
  obtain ⟨o, h1, cur, rfl, h2, h3, h4, h5⟩ := h.bl (p.1, true, orow e sz m p.2 xs) (List.mem_append_left _ (List.mem_cons_self ..))
  exact .inr ⟨p.1, p.2, cur, rfl, Nat.zero_le _, h1, h2, h3, h4, h5⟩
theorem xo_app (T : TysR P) {t e : TypeId} {s x : Operand} {z : Value} {sz by_ m : Nat} {r : RowR} {xs news : List Value} {b : Nat} {wr : Bool} {η0 : Hp} (hg : gS ops σ g = some true) (ht : look t T.el = some e) (hi : look e T.inf = some (z, sz, by_)) (hzs : z.cells.toList.length = sz) (hsz : Nat.blt 0 sz = true)
  (hs : ev σ s = some (valR r m)) (hx : ev σ x = some (.slice (some ⟨b, 0, none⟩) 1 1)) (hη : η = (b, wr, cel news e) :: (hpR e sz r m xs ++ η0)) (hl : xs.length = m * sz) (hn : news.length = sz) (h1 : news.all (·.oneCell') = true) (h0 : r = none → m = 0)
  (hb : (m + 1) * by_ ≤ 140737488355328) (hb0 : Nat.blt 0 by_ = true) (hN : dstOK N d = true)
  (h : ∀ r' : RowR, r' ≠ none → XO P ro n N ds w0 X Q ops (putS d (valR r' (m + 1)) σ) (hpR e sz r' (m + 1) (xs ++ news) ++ η0) rest) :
  XO P ro n N ds w0 X Q ops σ η (⟨d, .call { callee := .builtin .append, args := #[s, x], argTypes := #[t, t] }, ty, pos, aft, g⟩ :: rest) := by
 subst hη
 refine xo_base rfl hg fun a w ha hw => ?_
 have hT := T.hel _ (look_mem ht)
 obtain ⟨i, hi1, hi2⟩ := Option.map_eq_some_iff.1 (T.hinf _ (look_mem hi))
 simp only [Prod.mk.injEq] at hi2
 obtain ⟨iz, isz, iby⟩ := hi2
 have hw' := hw.sub (List.sublist_cons_self _ _)
 have hown := hw'.owns hl h0
 have hb1 : 0 < by_ := by simpa [Nat.blt_eq] using hb0
 have hlen : m + 1 ≤ 140737488355328 := Nat.le_trans (Nat.le_mul_of_pos_right _ hb1) hb
 obtain ⟨v', w', hr, own', hgr, hnil, hat⟩ := run_append_own_at (P := P) w 0 t ty e i z sz by_ hT hi1 iz isz iby (by simpa using hzs) (by simpa [Nat.blt_eq] using hsz) (valR r m) m xs hown ⟨b, 0, none⟩ 1 1 news (by omega)
  (fun j u hj => by rw [Addr.add_lit, Nat.zero_add]; exact hw.cell (List.mem_cons_self ..) j hj) (by simpa using h1) (by simp only [maxLen]; omega) hb (Nat.zero_le _)
 obtain ⟨h2, h3⟩ := own'
 rcases h3 with ⟨_, h3⟩ | ⟨g', cap', cur, rfl, _, h4, h5, h6, h7, h8⟩
 ·exact absurd h3 (by omega)
 refine ⟨.value (.slice (some ⟨g', 0, none⟩) (m + 1) cap'), w', _, ?_, .inl rfl, h (some (g', cap')) (by simp) _ _ (ha.put hN _) ?_⟩
 ·simp only [execOp, resolve, invoke, builtin, Sem.run_bind, Sem.run_pure, Result.andThen_ok, List.map_toArray, List.map_cons, List.map_nil, ha.ev hs, ha.ev hx, hr]
 ·have hη0 := hw'.sub (List.sublist_append_right (hpR e sz r m xs) η0)
  have hold : ∀ k, k < w.heap.size → (∀ p, r = some p → k ≠ p.1) → w'.heap[k]? = w.heap[k]? := fun k hk hne => hgr.block k hk (fun e' => by
   cases r with
   | none => simp [valR, Value.ownBlock] at e'
   | some p => simp [valR, Value.ownBlock] at e'; exact hne p rfl e')
  have hne0 : ∀ e' ∈ η0, ∀ p, r = some p → e'.1 ≠ p.1 := fun e' he p hp q => by
   subst hp
   have hnd := hw'.nd
   simp only [hpR, List.cons_append, List.nil_append, List.map_cons, List.nodup_cons] at hnd
   exact hnd.1 (List.mem_map.2 ⟨e', he, q⟩)
  have hrow : ∀ p, r = some p → w0.heap.size ≤ p.1 ∨ X p.1 := fun p hp => by
   subst hp
   exact hw'.ow (p.1, true, orow e sz m p.2 xs) (List.mem_append_left _ (List.mem_cons_self ..)) rfl
  have hg' : (∃ p, r = some p ∧ g' = p.1) ∨ g' = w.heap.size := by
   rcases hat with hat | hat
   ·left
    cases r with
    | none => simp [valR, Value.ownBlock] at hat
    | some p => simp [valR, Value.ownBlock] at hat; exact ⟨p, rfl, hat⟩
   ·right
    simpa [Value.ownBlock] using hat
  refine ⟨⟨hgr.os.trans hη0.kx.os, hgr.tape.trans hη0.kx.tape, hgr.output.trans hη0.kx.output, Nat.le_trans hη0.kx.size hgr.size, fun k hk hx => ?_⟩, ?_, ?_, ?_⟩
  ·refine (hold k (Nat.lt_of_lt_of_le hk hη0.kx.size) (fun p hp q => ?_)).trans (hη0.kx.block k hk hx)
   subst q
   rcases hrow p hp with h9 | h9
   ·exact absurd hk (Nat.not_lt.2 h9)
   ·exact hx h9
  ·intro e' he
   rcases List.mem_append.1 he with he | he
   ·simp only [hpR, List.mem_singleton] at he
    subst he
    exact ⟨_, h4, cur, rfl, h5, h6, h7, h8⟩
   ·obtain ⟨o, h9, h10⟩ := hη0.bl e' he
    exact ⟨o, (hold _ (hη0.lt he) (hne0 e' he)).trans h9, h10⟩
  ·simp only [hpR, List.cons_append, List.nil_append, List.map_cons, List.nodup_cons]
   refine ⟨fun hm => ?_, hη0.nd⟩
   obtain ⟨e', he, q⟩ := List.mem_map.1 hm
   rcases hg' with ⟨p, hp, hg'⟩ | hg'
   ·exact hne0 e' he p hp (q.trans hg')
   ·have := hη0.lt he
    omega
  ·intro e' he hwr
   rcases List.mem_append.1 he with he | he
   ·simp only [hpR, List.mem_singleton] at he
    subst he
    rcases hg' with ⟨p, hp, hg'⟩ | hg'
    ·rw [show g' = p.1 from hg']; exact hrow p hp
    ·exact .inl (by rw [show g' = _ from hg']; exact hη0.kx.size)
   ·exact hη0.ow e' he hwr
theorem xo_build (T : TysB P) {t : TypeId} {parts : List (Nat × Operand)} {pl : List (Nat × Nat)} {z : Array Value} {ps : List (Nat × Value)} {cs : List Value} (hg : gS ops σ g = some true) (ht : look t T.bl = some (pl, z)) (hp : evp σ parts = some ps) (hc : fillL pl z.toList ps = some cs) (hN : dstOK N d = true)
  (h : XO P ro n N ds w0 X Q ops (putS d (.agg cs.toArray) σ) η rest) : XO P ro n N ds w0 X Q ops σ η (⟨d, .build t parts.toArray, ty, pos, aft, g⟩ :: rest) :=
 xo_val _ rfl hg hN (fun a w ha hw => by
  have h1 := fillL_eq pl ps z.toList cs hc
  simp only [Array.toArray_toList] at h1
  have h2 := T.hbl _ (look_mem ht) ps.toArray cs.toArray w (by simpa using h1)
  have h3 := ha.evp hp
  simp only [execOp, List.map_toArray, Sem.run_bind]
  rw [show (parts.map fun (i, x) => (i, a.eval x)) = ps from h3, h2]
  rfl) h
theorem xo_mks (T : TysR P) {t e : TypeId} {x y : Operand} {z : Value} {by_ m : Nat} (hg : gS ops σ g = some true) (ht : look t T.el = some e) (hi : look e T.inf = some (z, 1, by_)) (hzc : z.cells = #[z]) (hx : ev σ x = some (.int .i64 (m : Int))) (hy : ev σ y = some (.int .i64 (m : Int))) (hb : by_ * m ≤ 281474976710656) (hm : m ≤ 9223372036854775807) (hN : dstOK N d = true)
  (h : ∀ b, XO P ro n N ds w0 X Q ops (putS d (.slice (some ⟨b, 0, none⟩) m m) σ) ((b, true, cel (List.replicate m z) e) :: η) rest) : XO P ro n N ds w0 X Q ops σ η (⟨d, .makeSlice t x y, ty, pos, aft, g⟩ :: rest) :=
 xo_base rfl hg fun a w ha hw => by
  have hr := run_make_row' (P := P) t e z by_ (T.hel _ (look_mem ht)) (T.hinf _ (look_mem hi)) hzc .i64 .i64 m hb hm w
  refine ⟨_, w.alloc (.cells (madeCells #[z] m) e), .slice (some ⟨w.heap.size, 0, none⟩) m m, ?_, .inl rfl, h _ _ _ (ha.put hN _) (hw.alloc _ _ ?_)⟩
  ·simp only [execOp, ha.ev hx, ha.ev hy, Sem.run_bind, hr, Result.andThen_ok]
   rfl
  ·show Obj.cells _ _ _ = _
   congr 1
   apply Array.ext'
   apply List.ext_getElem
   ·simp [madeCells]
   ·intro i h1 h2
    simp [madeCells, Nat.mod_one]
theorem xo_loadI (T : Tys P) {t : TypeId} {x : Operand} {b o k : Nat} {wr : Bool} {cs : List Value} {te : TypeId} {v : Value} (hg : gS ops σ g = some true) (ht : look t T.tk = some 0) (hx : ev σ x = some (.pointer (some (Addr.add ⟨b, o, none⟩ k)))) (hm : (b, wr, cel cs te) ∈ η) (hv : cs[o + k]? = some v) (hN : dstOK N d = true)
  (h : XO P ro n N ds w0 X Q ops (putS d v σ) η rest) : XO P ro n N ds w0 X Q ops σ η (⟨d, .load t x, ty, pos, aft, g⟩ :: rest) :=
 xo_val v rfl hg hN (fun a w ha hw => by
  have h1 := (T.htk _ (look_mem ht)).1 w
  have h2 := hw.cell hm (o + k) hv
  have h3 := ha.ev hx
  rw [Addr.add_lit] at h3
  simp [execOp, h3, Instr.loadAt, Instr.sureAddr, loadVar, h1, h2]) h
theorem xo_storeI (T : Tys P) {t : TypeId} {p x : Operand} {b o k : Nat} {cs : List Value} {te : TypeId} {v : Value} {η' : Hp} (hg : gS ops σ g = some true) (ht : look t T.tk = some 0) (hp : ev σ p = some (.pointer (some (Addr.add ⟨b, o, none⟩ k)))) (hx : ev σ x = some v)
  (hm : (b, true, cel cs te) ∈ η) (hv : v.cells = #[v]) (h1 : v.oneCell' = true) (hlt : o + k < cs.length) (hU : Upd b (cel (cs.set (o + k) v) te) η η') (hN : dstOK N d = true)
  (h : XO P ro n N ds w0 X Q ops (putS d undef σ) η' rest) : XO P ro n N ds w0 X Q ops σ η (⟨d, .store t p x, ty, pos, aft, g⟩ :: rest) :=
 xo_base rfl hg fun a w ha hw => by
  have h2 : (sizeOf t).run P w = .ok 1 w := (T.htk _ (look_mem ht)).2 w
  have hb := hw.obj hm
  have hcell : w.cell? ⟨b, o + k, none⟩ = some (cs[o + k]'hlt) := by
   rw [cell_of_row w b (o + k) _ te _ hb]
   simp [List.getElem?_eq_getElem hlt]
  have hfz : w.frozen? ⟨b, o + k, none⟩ = false := frozen_of_row w b (o + k) _ te hb
  have hst : (store ⟨b, o + k, none⟩ v .plain).run P w = .ok () (w.setCell ⟨b, o + k, none⟩ v) := by
   rw [run_store P w _ v _ h1, hcell]
   simp [hfz]
  have hb' : (w.setCell ⟨b, o + k, none⟩ v).heap[b]? = some (.cells (cs.set (o + k) v).toArray te (0, 0)) := by
   rw [heap_setCell_same w b (o + k) _ te v hb]
   simp
  have h3 := ha.ev hp
  rw [Addr.add_lit] at h3
  refine ⟨.skip, _, undef, ?_, .inr ⟨rfl, rfl⟩, h _ _ (ha.put hN _) (hw.upd hU (OneB.setCell w b (o + k) v) hb' rfl)⟩
  simp only [execOp, h3, ha.ev hx, Instr.storeAt, Instr.sureAddr, storeVar, Sem.run_bind, Sem.run_pure, Result.andThen_ok, h2, hv, List.size_toArray, List.length_cons, List.length_nil, ne_eq, not_true_eq_false, ↓reduceIte, storeCells, Addr.add_zero', hst]
theorem xo_loadO (T : Tys P) {t : TypeId} {x : Operand} {b m cap k : Nat} {wr : Bool} {xs : List Value} {te : TypeId} {v : Value} (hg : gS ops σ g = some true) (ht : look t T.tk = some 0) (hx : ev σ x = some (.pointer (some (Addr.add ⟨b, 0, none⟩ k)))) (hm : (b, wr, orow te 1 m cap xs) ∈ η) (hv : xs[k]? = some v) (hN : dstOK N d = true)
  (h : XO P ro n N ds w0 X Q ops (putS d v σ) η rest) : XO P ro n N ds w0 X Q ops σ η (⟨d, .load t x, ty, pos, aft, g⟩ :: rest) :=
 xo_val v rfl hg hN (fun a w ha hw => by
  have h1 := (T.htk _ (look_mem ht)).1 w
  obtain ⟨o, h4, cur, rfl, h5, h6, h7, h8⟩ := hw.bl _ hm
  have h2 : w.cell? ⟨b, k, none⟩ = some v := by
   rw [cell_of_row w b k _ te _ h4, ← Array.getElem?_toList]
   rw [← h8] at hv
   rw [List.getElem?_take] at hv
   split at hv
   ·exact hv
   ·cases hv
  have h3 := ha.ev hx
  rw [Addr.add_lit, Nat.zero_add] at h3
  simp [execOp, h3, Instr.loadAt, Instr.sureAddr, loadVar, h1, h2]) h
end
end Go.Proofs.YtommeljlfkmpjaaDoor
namespace Go.Proofs.YtommeljlfkmpjaaDoor
open Go.RowKit
end Go.Proofs.YtommeljlfkmpjaaDoor
namespace Go.Proofs.YtommeljlfkmpjaaDoor
open Go.RowKit
def aggD : TypeDesc → Bool
 | .struct _ | .array _ _ => true
 | _ => false
theorem tk_of {P : Program} {t k : Nat} {d : TypeDesc} (hu : P.underlying t = some d) (hd : aggD d = Nat.blt 0 k) (hi : (P.info? t).map (·.size) = some (bif Nat.beq k 0 then 1 else k)) :
  (∀ w, (isAgg (t, k).1).run P w = .ok (Nat.blt 0 (t, k).2) w) ∧ (∀ w, (sizeOf (t, k).1).run P w = .ok (bif Nat.beq (t, k).2 0 then 1 else (t, k).2) w) := by
 refine ⟨fun w => ?_, fun w => ?_⟩
 ·show (isAgg t).run P w = .ok (Nat.blt 0 k) w
  rw [← hd]
  unfold isAgg
  rw [Sem.run_bind, run_underlying hu w]
  cases d <;> rfl
 ·obtain ⟨i, h1, h2⟩ := Option.map_eq_some_iff.1 hi
  show (sizeOf t).run P w = .ok (bif Nat.beq k 0 then 1 else k) w
  rw [← h2]
  simp [sizeOf, typeInfo, h1]
theorem zs_of {P : Program} {t : Nat} {v : Value} (hi : (P.info? t).bind (·.zero) = some v) : ∀ w, (zeroValue (t, v).1).run P w = .ok (t, v).2 w := by
 intro w
 obtain ⟨i, h1, h2⟩ := Option.bind_eq_some_iff.1 hi
 show (zeroValue t).run P w = .ok v w
 simp [zeroValue, typeInfo, h1, h2]
def ty_tk : List (Nat × Nat) := [(1, 0), (2, 0), (3, 0), (4, 0), (5, 0), (6, 0), (7, 4), (8, 4), (9, 0), (10, 0), (11, 0), (12, 0), (13, 2), (14, 2), (15, 0), (16, 0), (17, 0), (18, 1), (19, 1), (21, 0), (22, 0), (23, 0), (24, 4), (25, 4), (26, 0), (27, 0), (28, 0), (29, 0), (31, 0), (33, 0), (34, 0), (36, 0), (38, 0), (40, 0), (42, 0), (43, 0), (44, 0), (45, 0), (46, 0), (47, 0), (48, 0), (49, 0), (50, 0), (51, 0), (52, 0), (53, 0), (54, 2), (55, 2), (56, 4), (57, 4), (58, 0), (59, 7), (60, 7), (61, 0), (62, 0), (64, 0), (65, 0), (66, 0), (67, 0), (68, 0), (69, 0), (70, 0), (71, 0), (72, 0), (73, 0), (74, 0), (75, 0), (76, 0), (77, 0), (78, 0), (79, 0), (80, 0), (81, 0), (82, 6), (83, 6), (84, 0), (85, 0), (86, 0), (87, 0), (88, 0), (89, 0), (90, 0), (91, 2), (92, 2), (93, 14), (94, 0), (95, 0), (96, 0), (97, 0), (98, 0), (99, 0), (100, 6), (101, 6), (102, 36), (103, 0), (104, 0), (105, 0), (106, 0), (107, 0), (108, 0), (109, 0), (110, 0), (111, 0), (112, 0), (113, 0), (114, 0), (115, 0), (116, 0), (117, 0), (119, 0), (120, 0), (121, 0), (122, 0), (123, 0), (124, 0), (125, 0), (126, 0), (127, 0), (128, 0), (129, 0), (130, 0), (131, 0), (132, 0), (133, 0), (135, 0), (136, 0), (137, 0), (139, 0), (140, 0), (141, 0), (142, 0), (143, 0), (144, 0), (145, 0), (146, 0), (147, 0), (148, 0), (149, 0), (150, 0), (151, 0), (152, 0), (153, 0), (154, 0), (155, 0), (156, 0), (157, 0), (158, 0), (159, 0), (160, 0), (161, 0), (162, 4), (163, 4), (167, 0), (168, 0), (169, 0), (170, 0), (171, 0), (172, 0), (173, 0), (174, 11), (175, 11)]
def ty_zs : List (Nat × Value) := [(1, .nilFunc), (2, (.int .i64 0)), (3, (.int .i64 0)), (4, (.bool false)), (5, (.int .u8 0)), (6, (.int .u8 0)), (7, (.agg #[(.int .i64 0), (.int .i64 0), (.bool false), (.int .u8 0)])), (8, (.agg #[(.int .i64 0), (.int .i64 0), (.bool false), (.int .u8 0)])), (9, (.string ⟨#[]⟩)), (10, (.string ⟨#[]⟩)), (11, (.string ⟨#[]⟩)), (12, (.int .u64 0)), (13, (.agg #[(.string ⟨#[]⟩), (.int .u64 0)])), (14, (.agg #[(.string ⟨#[]⟩), (.int .u64 0)])), (15, (.pointer none)), (16, (.pointer none)), (17, (.pointer none)), (18, (.agg #[(.pointer none)])), (19, (.agg #[(.pointer none)])), (21, (.int .i32 0)), (22, (.slice none 0 0)), (23, (.slice none 0 0)), (24, (.agg #[(.int .i64 0), (.slice none 0 0), (.int .i64 0), (.slice none 0 0)])), (25, (.agg #[(.int .i64 0), (.slice none 0 0), (.int .i64 0), (.slice none 0 0)])), (26, .nilFunc), (27, .nilFunc), (28, (.slice none 0 0)), (29, (.int .i64 0)), (31, .nilFunc), (33, .nilFunc), (34, (.slice none 0 0)), (36, .nilFunc), (38, .nilFunc), (40, .nilFunc), (42, .nilFunc), (43, .nilFunc), (44, .nilFunc), (45, .nilFunc), (46, .nilFunc), (47, .nilFunc), (48, .nilFunc), (49, .nilFunc), (50, .nilFunc), (51, .nilFunc), (52, .nilFunc), (53, .nilFunc), (54, (.agg #[(.int .i64 0), (.int .i64 0)])), (55, (.agg #[(.int .i64 0), (.int .i64 0)])), (56, (.agg #[(.int .i64 0), (.int .i64 0), (.int .i64 0), (.int .i64 0)])), (57, (.agg #[(.int .i64 0), (.int .i64 0), (.int .i64 0), (.int .i64 0)])), (58, .nilFunc), (59, (.agg #[(.int .i64 0), (.int .u8 0), (.int .i64 0), (.int .i64 0), (.int .i64 0), (.int .i64 0), (.int .i64 0)])), (60, (.agg #[(.int .i64 0), (.int .u8 0), (.int .i64 0), (.int .i64 0), (.int .i64 0), (.int .i64 0), (.int .i64 0)])), (61, .nilFunc), (62, (.pointer none)), (64, .nilFunc), (65, (.map none)), (66, .nilFunc), (67, .nilFunc), (68, .nilFunc), (69, .nilFunc), (70, .nilFunc), (71, .nilFunc), (72, .nilFunc), (73, .nilFunc), (74, (.slice none 0 0)), (75, .nilFunc), (76, .nilFunc), (77, .nilFunc), (78, .nilFunc), (79, .nilFunc), (80, (.slice none 0 0)), (81, (.slice none 0 0)), (82, (.agg #[(.int .i64 0), (.slice none 0 0), (.int .i64 0), (.slice none 0 0), (.slice none 0 0), (.slice none 0 0)])), (83, (.agg #[(.int .i64 0), (.slice none 0 0), (.int .i64 0), (.slice none 0 0), (.slice none 0 0), (.slice none 0 0)])), (84, .nilFunc), (85, .nilFunc), (86, .nilFunc), (87, .nilFunc), (88, .nilFunc), (89, .nilFunc), (90, .nilFunc), (91, (.agg #[.nilFunc, .nilFunc])), (92, (.agg #[.nilFunc, .nilFunc])), (93, (.agg #[.nilFunc, .nilFunc, .nilFunc, .nilFunc, .nilFunc, .nilFunc, .nilFunc, .nilFunc, .nilFunc, .nilFunc, .nilFunc, .nilFunc, .nilFunc, .nilFunc])), (94, .nilFunc), (95, .nilFunc), (96, .nilFunc), (97, .nilFunc), (98, .nilFunc), (99, .nilFunc), (100, (.agg #[(.int .i64 0), (.int .i64 0), (.int .i64 0), (.int .i64 0), (.int .i64 0), (.int .i64 0)])), (101, (.agg #[(.int .i64 0), (.int .i64 0), (.int .i64 0), (.int .i64 0), (.int .i64 0), (.int .i64 0)])), (102, (.agg #[(.int .i64 0), (.int .i64 0), (.int .i64 0), (.int .i64 0), (.int .i64 0), (.int .i64 0), (.int .i64 0), (.int .i64 0), (.int .i64 0), (.int .i64 0), (.int .i64 0), (.int .i64 0), (.int .i64 0), (.int .i64 0), (.int .i64 0), (.int .i64 0), (.int .i64 0), (.int .i64 0), (.int .i64 0), (.int .i64 0), (.int .i64 0), (.int .i64 0), (.int .i64 0), (.int .i64 0), (.int .i64 0), (.int .i64 0), (.int .i64 0), (.int .i64 0), (.int .i64 0), (.int .i64 0), (.int .i64 0), (.int .i64 0), (.int .i64 0), (.int .i64 0), (.int .i64 0), (.int .i64 0)])), (103, .nilFunc), (104, .nilFunc), (105, .nilFunc), (106, .nilFunc), (107, .nilFunc), (108, .nilFunc), (109, .nilFunc), (110, .nilFunc), (111, (.slice none 0 0)), (112, .nilFunc), (113, .nilFunc), (114, .nilFunc), (115, .nilFunc), (116, .nilFunc), (117, .nilFunc), (119, .nilFunc), (120, .nilFunc), (121, .nilFunc), (122, .nilFunc), (123, (.int .u64 0)), (124, .nilFunc), (125, .nilFunc), (126, .nilFunc), (127, .nilFunc), (128, .nilFunc), (129, .nilFunc), (130, .nilFunc), (131, .nilFunc), (132, .nilFunc), (133, (.int .i64 0)), (135, .nilFunc), (136, .nilFunc), (137, .nilFunc), (139, .nilFunc), (140, .nilFunc), (141, (.int .u32 0)), (142, .nilFunc), (143, (.int .u64 0)), (144, .nilFunc), (145, .nilFunc), (146, .nilFunc), (147, .nilFunc), (148, .nilFunc), (149, .nilFunc), (150, (.int .u64 0)), (151, .nilFunc), (152, .nilFunc), (153, .nilFunc), (154, (.pointer none)), (155, .nilFunc), (156, .nilFunc), (157, .nilFunc), (158, (.pointer none)), (159, .nilFunc), (160, .nilFunc), (161, .nilFunc), (162, (.agg #[(.pointer none), (.pointer none), (.pointer none), (.string ⟨#[]⟩)])), (163, (.agg #[(.pointer none), (.pointer none), (.pointer none), (.string ⟨#[]⟩)])), (167, .nilFunc), (168, (.int .u8 0)), (169, (.int .u8 0)), (170, .nilFunc), (171, (.pointer none)), (172, (.int .i32 0)), (173, (.int .i32 0)), (174, (.agg #[(.int .u64 0), (.int .u64 0), (.int .u32 0), (.int .u8 0), (.int .u8 0), (.int .u8 0), (.int .u8 0), .nilFunc, (.pointer none), (.int .i32 0), (.int .i32 0)])), (175, (.agg #[(.int .u64 0), (.int .u64 0), (.int .u32 0), (.int .u8 0), (.int .u8 0), (.int .u8 0), (.int .u8 0), .nilFunc, (.pointer none), (.int .i32 0), (.int .i32 0)]))]
def ty_fo : List (Nat × List Nat) := [(7, [0, 1, 2, 3]), (8, [0, 1, 2, 3]), (13, [0, 1]), (14, [0, 1]), (18, [0]), (19, [0]), (24, [0, 1, 2, 3]), (25, [0, 1, 2, 3]), (54, [0, 1]), (55, [0, 1]), (56, [0, 1, 2]), (57, [0, 1, 2]), (59, [0, 1, 2, 3, 4, 6]), (60, [0, 1, 2, 3, 4, 6]), (82, [0, 4, 5]), (83, [0, 4, 5]), (91, [0, 1]), (92, [0, 1]), (162, [0, 1, 2, 3]), (163, [0, 1, 2, 3]), (174, [0, 1, 2, 3, 4, 5, 6, 7, 8, 9, 10]), (175, [0, 1, 2, 3, 4, 5, 6, 7, 8, 9, 10])]
def ty_el : List (Nat × Nat) := [(22, 57), (23, 60), (28, 55), (34, 3), (74, 4), (80, 102), (81, 34), (111, 23)]
def ty_ik : List (Nat × IntKind) := [(2, .i64), (3, .i64), (5, .u8), (6, .u8), (12, .u64), (21, .i32), (29, .i64), (123, .u64), (133, .i64), (141, .u32), (143, .u64), (150, .u64), (168, .u8), (169, .u8), (172, .i32), (173, .i32)]
def ty_mp : List (Nat × Nat × Nat) := [(65, 3, 4)]
set_option maxRecDepth 10000 in
theorem ty_htk : ∀ p ∈ ty_tk, (∀ w, (isAgg p.1).run Tryd.prog w = .ok (Nat.blt 0 p.2) w) ∧ (∀ w, (sizeOf p.1).run Tryd.prog w = .ok (bif Nat.beq p.2 0 then 1 else p.2) w) := by
 unfold ty_tk
 simp only [List.mem_cons, List.not_mem_nil, or_false, forall_eq_or_imp, forall_eq]
 exact ⟨tk_of (k := 0) Tryd.underlying1 rfl (by kernel_rfl),
  tk_of (k := 0) Tryd.underlying2 rfl (by kernel_rfl),
  tk_of (k := 0) Tryd.underlying3 rfl (by kernel_rfl),
  tk_of (k := 0) Tryd.underlying4 rfl (by kernel_rfl),
  tk_of (k := 0) Tryd.underlying5 rfl (by kernel_rfl),
  tk_of (k := 0) Tryd.underlying6 rfl (by kernel_rfl),
  tk_of (k := 4) Tryd.underlying7 rfl (by kernel_rfl),
  tk_of (k := 4) Tryd.underlying8 rfl (by kernel_rfl),
  tk_of (k := 0) Tryd.underlying9 rfl (by kernel_rfl),
  tk_of (k := 0) Tryd.underlying10 rfl (by kernel_rfl),
  tk_of (k := 0) Tryd.underlying11 rfl (by kernel_rfl),
  tk_of (k := 0) Tryd.underlying12 rfl (by kernel_rfl),
  tk_of (k := 2) Tryd.underlying13 rfl (by kernel_rfl),
  tk_of (k := 2) Tryd.underlying14 rfl (by kernel_rfl),
  tk_of (k := 0) Tryd.underlying15 rfl (by kernel_rfl),
  tk_of (k := 0) Tryd.underlying16 rfl (by kernel_rfl),
  tk_of (k := 0) Tryd.underlying17 rfl (by kernel_rfl),
  tk_of (k := 1) Tryd.underlying18 rfl (by kernel_rfl),
  tk_of (k := 1) Tryd.underlying19 rfl (by kernel_rfl),
  tk_of (k := 0) Tryd.underlying21 rfl (by kernel_rfl),
  tk_of (k := 0) Tryd.underlying22 rfl (by kernel_rfl),
  tk_of (k := 0) Tryd.underlying23 rfl (by kernel_rfl),
  tk_of (k := 4) Tryd.underlying24 rfl (by kernel_rfl),
  tk_of (k := 4) Tryd.underlying25 rfl (by kernel_rfl),
  tk_of (k := 0) Tryd.underlying26 rfl (by kernel_rfl),
  tk_of (k := 0) Tryd.underlying27 rfl (by kernel_rfl),
  tk_of (k := 0) Tryd.underlying28 rfl (by kernel_rfl),
  tk_of (k := 0) Tryd.underlying29 rfl (by kernel_rfl),
  tk_of (k := 0) Tryd.underlying31 rfl (by kernel_rfl),
  tk_of (k := 0) Tryd.underlying33 rfl (by kernel_rfl),
  tk_of (k := 0) Tryd.underlying34 rfl (by kernel_rfl),
  tk_of (k := 0) Tryd.underlying36 rfl (by kernel_rfl),
  tk_of (k := 0) Tryd.underlying38 rfl (by kernel_rfl),
  tk_of (k := 0) Tryd.underlying40 rfl (by kernel_rfl),
  tk_of (k := 0) Tryd.underlying42 rfl (by kernel_rfl),
  tk_of (k := 0) Tryd.underlying43 rfl (by kernel_rfl),
  tk_of (k := 0) Tryd.underlying44 rfl (by kernel_rfl),
  tk_of (k := 0) Tryd.underlying45 rfl (by kernel_rfl),
  tk_of (k := 0) Tryd.underlying46 rfl (by kernel_rfl),
  tk_of (k := 0) Tryd.underlying47 rfl (by kernel_rfl),
  tk_of (k := 0) Tryd.underlying48 rfl (by kernel_rfl),
  tk_of (k := 0) Tryd.underlying49 rfl (by kernel_rfl),
  tk_of (k := 0) Tryd.underlying50 rfl (by kernel_rfl),
  tk_of (k := 0) Tryd.underlying51 rfl (by kernel_rfl),
  tk_of (k := 0) Tryd.underlying52 rfl (by kernel_rfl),
  tk_of (k := 0) Tryd.underlying53 rfl (by kernel_rfl),
  tk_of (k := 2) Tryd.underlying54 rfl (by kernel_rfl),
  tk_of (k := 2) Tryd.underlying55 rfl (by kernel_rfl),
  tk_of (k := 4) Tryd.underlying56 rfl (by kernel_rfl),
  tk_of (k := 4) Tryd.underlying57 rfl (by kernel_rfl),
  tk_of (k := 0) Tryd.underlying58 rfl (by kernel_rfl),
  tk_of (k := 7) Tryd.underlying59 rfl (by kernel_rfl),
  tk_of (k := 7) Tryd.underlying60 rfl (by kernel_rfl),
  tk_of (k := 0) Tryd.underlying61 rfl (by kernel_rfl),
  tk_of (k := 0) Tryd.underlying62 rfl (by kernel_rfl),
  tk_of (k := 0) Tryd.underlying64 rfl (by kernel_rfl),
  tk_of (k := 0) Tryd.underlying65 rfl (by kernel_rfl),
  tk_of (k := 0) Tryd.underlying66 rfl (by kernel_rfl),
  tk_of (k := 0) Tryd.underlying67 rfl (by kernel_rfl),
  tk_of (k := 0) Tryd.underlying68 rfl (by kernel_rfl),
  tk_of (k := 0) Tryd.underlying69 rfl (by kernel_rfl),
  tk_of (k := 0) Tryd.underlying70 rfl (by kernel_rfl),
  tk_of (k := 0) Tryd.underlying71 rfl (by kernel_rfl),
  tk_of (k := 0) Tryd.underlying72 rfl (by kernel_rfl),
  tk_of (k := 0) Tryd.underlying73 rfl (by kernel_rfl),
  tk_of (k := 0) Tryd.underlying74 rfl (by kernel_rfl),
  tk_of (k := 0) Tryd.underlying75 rfl (by kernel_rfl),
  tk_of (k := 0) Tryd.underlying76 rfl (by kernel_rfl),
  tk_of (k := 0) Tryd.underlying77 rfl (by kernel_rfl),
  tk_of (k := 0) Tryd.underlying78 rfl (by kernel_rfl),
  tk_of (k := 0) Tryd.underlying79 rfl (by kernel_rfl),
  tk_of (k := 0) Tryd.underlying80 rfl (by kernel_rfl),
  tk_of (k := 0) Tryd.underlying81 rfl (by kernel_rfl),
  tk_of (k := 6) Tryd.underlying82 rfl (by kernel_rfl),
  tk_of (k := 6) Tryd.underlying83 rfl (by kernel_rfl),
  tk_of (k := 0) Tryd.underlying84 rfl (by kernel_rfl),
  tk_of (k := 0) Tryd.underlying85 rfl (by kernel_rfl),
  tk_of (k := 0) Tryd.underlying86 rfl (by kernel_rfl),
  tk_of (k := 0) Tryd.underlying87 rfl (by kernel_rfl),
  tk_of (k := 0) Tryd.underlying88 rfl (by kernel_rfl),
  tk_of (k := 0) Tryd.underlying89 rfl (by kernel_rfl),
  tk_of (k := 0) Tryd.underlying90 rfl (by kernel_rfl),
  tk_of (k := 2) Tryd.underlying91 rfl (by kernel_rfl),
  tk_of (k := 2) Tryd.underlying92 rfl (by kernel_rfl),
  tk_of (k := 14) Tryd.underlying93 rfl (by kernel_rfl),
  tk_of (k := 0) Tryd.underlying94 rfl (by kernel_rfl),
  tk_of (k := 0) Tryd.underlying95 rfl (by kernel_rfl),
  tk_of (k := 0) Tryd.underlying96 rfl (by kernel_rfl),
  tk_of (k := 0) Tryd.underlying97 rfl (by kernel_rfl),
  tk_of (k := 0) Tryd.underlying98 rfl (by kernel_rfl),
  tk_of (k := 0) Tryd.underlying99 rfl (by kernel_rfl),
  tk_of (k := 6) Tryd.underlying100 rfl (by kernel_rfl),
  tk_of (k := 6) Tryd.underlying101 rfl (by kernel_rfl),
  tk_of (k := 36) Tryd.underlying102 rfl (by kernel_rfl),
  tk_of (k := 0) Tryd.underlying103 rfl (by kernel_rfl),
  tk_of (k := 0) Tryd.underlying104 rfl (by kernel_rfl),
  tk_of (k := 0) Tryd.underlying105 rfl (by kernel_rfl),
  tk_of (k := 0) Tryd.underlying106 rfl (by kernel_rfl),
  tk_of (k := 0) Tryd.underlying107 rfl (by kernel_rfl),
  tk_of (k := 0) Tryd.underlying108 rfl (by kernel_rfl),
  tk_of (k := 0) Tryd.underlying109 rfl (by kernel_rfl),
  tk_of (k := 0) Tryd.underlying110 rfl (by kernel_rfl),
  tk_of (k := 0) Tryd.underlying111 rfl (by kernel_rfl),
  tk_of (k := 0) Tryd.underlying112 rfl (by kernel_rfl),
  tk_of (k := 0) Tryd.underlying113 rfl (by kernel_rfl),
  tk_of (k := 0) Tryd.underlying114 rfl (by kernel_rfl),
  tk_of (k := 0) Tryd.underlying115 rfl (by kernel_rfl),
  tk_of (k := 0) Tryd.underlying116 rfl (by kernel_rfl),
  tk_of (k := 0) Tryd.underlying117 rfl (by kernel_rfl),
  tk_of (k := 0) Tryd.underlying119 rfl (by kernel_rfl),
  tk_of (k := 0) Tryd.underlying120 rfl (by kernel_rfl),
  tk_of (k := 0) Tryd.underlying121 rfl (by kernel_rfl),
  tk_of (k := 0) Tryd.underlying122 rfl (by kernel_rfl),
  tk_of (k := 0) Tryd.underlying123 rfl (by kernel_rfl),
  tk_of (k := 0) Tryd.underlying124 rfl (by kernel_rfl),
  tk_of (k := 0) Tryd.underlying125 rfl (by kernel_rfl),
  tk_of (k := 0) Tryd.underlying126 rfl (by kernel_rfl),
  tk_of (k := 0) Tryd.underlying127 rfl (by kernel_rfl),
  tk_of (k := 0) Tryd.underlying128 rfl (by kernel_rfl),
  tk_of (k := 0) Tryd.underlying129 rfl (by kernel_rfl),
  tk_of (k := 0) Tryd.underlying130 rfl (by kernel_rfl),
  tk_of (k := 0) Tryd.underlying131 rfl (by kernel_rfl),
  tk_of (k := 0) Tryd.underlying132 rfl (by kernel_rfl),
  tk_of (k := 0) Tryd.underlying133 rfl (by kernel_rfl),
  tk_of (k := 0) Tryd.underlying135 rfl (by kernel_rfl),
  tk_of (k := 0) Tryd.underlying136 rfl (by kernel_rfl),
  tk_of (k := 0) Tryd.underlying137 rfl (by kernel_rfl),
  tk_of (k := 0) Tryd.underlying139 rfl (by kernel_rfl),
  tk_of (k := 0) Tryd.underlying140 rfl (by kernel_rfl),
  tk_of (k := 0) Tryd.underlying141 rfl (by kernel_rfl),
  tk_of (k := 0) Tryd.underlying142 rfl (by kernel_rfl),
  tk_of (k := 0) Tryd.underlying143 rfl (by kernel_rfl),
  tk_of (k := 0) Tryd.underlying144 rfl (by kernel_rfl),
  tk_of (k := 0) Tryd.underlying145 rfl (by kernel_rfl),
  tk_of (k := 0) Tryd.underlying146 rfl (by kernel_rfl),
  tk_of (k := 0) Tryd.underlying147 rfl (by kernel_rfl),
  tk_of (k := 0) Tryd.underlying148 rfl (by kernel_rfl),
  tk_of (k := 0) Tryd.underlying149 rfl (by kernel_rfl),
  tk_of (k := 0) Tryd.underlying150 rfl (by kernel_rfl),
  tk_of (k := 0) Tryd.underlying151 rfl (by kernel_rfl),
  tk_of (k := 0) Tryd.underlying152 rfl (by kernel_rfl),
  tk_of (k := 0) Tryd.underlying153 rfl (by kernel_rfl),
  tk_of (k := 0) Tryd.underlying154 rfl (by kernel_rfl),
  tk_of (k := 0) Tryd.underlying155 rfl (by kernel_rfl),
  tk_of (k := 0) Tryd.underlying156 rfl (by kernel_rfl),
  tk_of (k := 0) Tryd.underlying157 rfl (by kernel_rfl),
  tk_of (k := 0) Tryd.underlying158 rfl (by kernel_rfl),
  tk_of (k := 0) Tryd.underlying159 rfl (by kernel_rfl),
  tk_of (k := 0) Tryd.underlying160 rfl (by kernel_rfl),
  tk_of (k := 0) Tryd.underlying161 rfl (by kernel_rfl),
  tk_of (k := 4) Tryd.underlying162 rfl (by kernel_rfl),
  tk_of (k := 4) Tryd.underlying163 rfl (by kernel_rfl),
  tk_of (k := 0) Tryd.underlying167 rfl (by kernel_rfl),
  tk_of (k := 0) Tryd.underlying168 rfl (by kernel_rfl),
  tk_of (k := 0) Tryd.underlying169 rfl (by kernel_rfl),
  tk_of (k := 0) Tryd.underlying170 rfl (by kernel_rfl),
  tk_of (k := 0) Tryd.underlying171 rfl (by kernel_rfl),
  tk_of (k := 0) Tryd.underlying172 rfl (by kernel_rfl),
  tk_of (k := 0) Tryd.underlying173 rfl (by kernel_rfl),
  tk_of (k := 11) Tryd.underlying174 rfl (by kernel_rfl),
  tk_of (k := 11) Tryd.underlying175 rfl (by kernel_rfl)⟩
set_option maxRecDepth 10000 in
theorem ty_hzs : ∀ p ∈ ty_zs, ∀ w, (zeroValue p.1).run Tryd.prog w = .ok p.2 w := by
 unfold ty_zs
 simp only [List.mem_cons, List.not_mem_nil, or_false, forall_eq_or_imp, forall_eq]
 exact ⟨zs_of (t := 1) (v := .nilFunc) (by kernel_rfl),
  zs_of (t := 2) (v := (.int .i64 0)) (by kernel_rfl),
  zs_of (t := 3) (v := (.int .i64 0)) (by kernel_rfl),
  zs_of (t := 4) (v := (.bool false)) (by kernel_rfl),
  zs_of (t := 5) (v := (.int .u8 0)) (by kernel_rfl),
  zs_of (t := 6) (v := (.int .u8 0)) (by kernel_rfl),
  zs_of (t := 7) (v := (.agg #[(.int .i64 0), (.int .i64 0), (.bool false), (.int .u8 0)])) (by kernel_rfl),
  zs_of (t := 8) (v := (.agg #[(.int .i64 0), (.int .i64 0), (.bool false), (.int .u8 0)])) (by kernel_rfl),
  zs_of (t := 9) (v := (.string ⟨#[]⟩)) (by kernel_rfl),
  zs_of (t := 10) (v := (.string ⟨#[]⟩)) (by kernel_rfl),
  zs_of (t := 11) (v := (.string ⟨#[]⟩)) (by kernel_rfl),
  zs_of (t := 12) (v := (.int .u64 0)) (by kernel_rfl),
  zs_of (t := 13) (v := (.agg #[(.string ⟨#[]⟩), (.int .u64 0)])) (by kernel_rfl),
  zs_of (t := 14) (v := (.agg #[(.string ⟨#[]⟩), (.int .u64 0)])) (by kernel_rfl),
  zs_of (t := 15) (v := (.pointer none)) (by kernel_rfl),
  zs_of (t := 16) (v := (.pointer none)) (by kernel_rfl),
  zs_of (t := 17) (v := (.pointer none)) (by kernel_rfl),
  zs_of (t := 18) (v := (.agg #[(.pointer none)])) (by kernel_rfl),
  zs_of (t := 19) (v := (.agg #[(.pointer none)])) (by kernel_rfl),
  zs_of (t := 21) (v := (.int .i32 0)) (by kernel_rfl),
  zs_of (t := 22) (v := (.slice none 0 0)) (by kernel_rfl),
  zs_of (t := 23) (v := (.slice none 0 0)) (by kernel_rfl),
  zs_of (t := 24) (v := (.agg #[(.int .i64 0), (.slice none 0 0), (.int .i64 0), (.slice none 0 0)])) (by kernel_rfl),
  zs_of (t := 25) (v := (.agg #[(.int .i64 0), (.slice none 0 0), (.int .i64 0), (.slice none 0 0)])) (by kernel_rfl),
  zs_of (t := 26) (v := .nilFunc) (by kernel_rfl),
  zs_of (t := 27) (v := .nilFunc) (by kernel_rfl),
  zs_of (t := 28) (v := (.slice none 0 0)) (by kernel_rfl),
  zs_of (t := 29) (v := (.int .i64 0)) (by kernel_rfl),
  zs_of (t := 31) (v := .nilFunc) (by kernel_rfl),
  zs_of (t := 33) (v := .nilFunc) (by kernel_rfl),
  zs_of (t := 34) (v := (.slice none 0 0)) (by kernel_rfl),
  zs_of (t := 36) (v := .nilFunc) (by kernel_rfl),
  zs_of (t := 38) (v := .nilFunc) (by kernel_rfl),
  zs_of (t := 40) (v := .nilFunc) (by kernel_rfl),
  zs_of (t := 42) (v := .nilFunc) (by kernel_rfl),
  zs_of (t := 43) (v := .nilFunc) (by kernel_rfl),
  zs_of (t := 44) (v := .nilFunc) (by kernel_rfl),
  zs_of (t := 45) (v := .nilFunc) (by kernel_rfl),
  zs_of (t := 46) (v := .nilFunc) (by kernel_rfl),
  zs_of (t := 47) (v := .nilFunc) (by kernel_rfl),
  zs_of (t := 48) (v := .nilFunc) (by kernel_rfl),
  zs_of (t := 49) (v := .nilFunc) (by kernel_rfl),
  zs_of (t := 50) (v := .nilFunc) (by kernel_rfl),
  zs_of (t := 51) (v := .nilFunc) (by kernel_rfl),
  zs_of (t := 52) (v := .nilFunc) (by kernel_rfl),
  zs_of (t := 53) (v := .nilFunc) (by kernel_rfl),
  zs_of (t := 54) (v := (.agg #[(.int .i64 0), (.int .i64 0)])) (by kernel_rfl),
  zs_of (t := 55) (v := (.agg #[(.int .i64 0), (.int .i64 0)])) (by kernel_rfl),
  zs_of (t := 56) (v := (.agg #[(.int .i64 0), (.int .i64 0), (.int .i64 0), (.int .i64 0)])) (by kernel_rfl),
  zs_of (t := 57) (v := (.agg #[(.int .i64 0), (.int .i64 0), (.int .i64 0), (.int .i64 0)])) (by kernel_rfl),
  zs_of (t := 58) (v := .nilFunc) (by kernel_rfl),
  zs_of (t := 59) (v := (.agg #[(.int .i64 0), (.int .u8 0), (.int .i64 0), (.int .i64 0), (.int .i64 0), (.int .i64 0), (.int .i64 0)])) (by kernel_rfl),
  zs_of (t := 60) (v := (.agg #[(.int .i64 0), (.int .u8 0), (.int .i64 0), (.int .i64 0), (.int .i64 0), (.int .i64 0), (.int .i64 0)])) (by kernel_rfl),
  zs_of (t := 61) (v := .nilFunc) (by kernel_rfl),
  zs_of (t := 62) (v := (.pointer none)) (by kernel_rfl),
  zs_of (t := 64) (v := .nilFunc) (by kernel_rfl),
  zs_of (t := 65) (v := (.map none)) (by kernel_rfl),
  zs_of (t := 66) (v := .nilFunc) (by kernel_rfl),
  zs_of (t := 67) (v := .nilFunc) (by kernel_rfl),
  zs_of (t := 68) (v := .nilFunc) (by kernel_rfl),
  zs_of (t := 69) (v := .nilFunc) (by kernel_rfl),
  zs_of (t := 70) (v := .nilFunc) (by kernel_rfl),
  zs_of (t := 71) (v := .nilFunc) (by kernel_rfl),
  zs_of (t := 72) (v := .nilFunc) (by kernel_rfl),
  zs_of (t := 73) (v := .nilFunc) (by kernel_rfl),
  zs_of (t := 74) (v := (.slice none 0 0)) (by kernel_rfl),
  zs_of (t := 75) (v := .nilFunc) (by kernel_rfl),
  zs_of (t := 76) (v := .nilFunc) (by kernel_rfl),
  zs_of (t := 77) (v := .nilFunc) (by kernel_rfl),
  zs_of (t := 78) (v := .nilFunc) (by kernel_rfl),
  zs_of (t := 79) (v := .nilFunc) (by kernel_rfl),
  zs_of (t := 80) (v := (.slice none 0 0)) (by kernel_rfl),
  zs_of (t := 81) (v := (.slice none 0 0)) (by kernel_rfl),
  zs_of (t := 82) (v := (.agg #[(.int .i64 0), (.slice none 0 0), (.int .i64 0), (.slice none 0 0), (.slice none 0 0), (.slice none 0 0)])) (by kernel_rfl),
  zs_of (t := 83) (v := (.agg #[(.int .i64 0), (.slice none 0 0), (.int .i64 0), (.slice none 0 0), (.slice none 0 0), (.slice none 0 0)])) (by kernel_rfl),
  zs_of (t := 84) (v := .nilFunc) (by kernel_rfl),
  zs_of (t := 85) (v := .nilFunc) (by kernel_rfl),
  zs_of (t := 86) (v := .nilFunc) (by kernel_rfl),
  zs_of (t := 87) (v := .nilFunc) (by kernel_rfl),
  zs_of (t := 88) (v := .nilFunc) (by kernel_rfl),
  zs_of (t := 89) (v := .nilFunc) (by kernel_rfl),
  zs_of (t := 90) (v := .nilFunc) (by kernel_rfl),
  zs_of (t := 91) (v := (.agg #[.nilFunc, .nilFunc])) (by kernel_rfl),
  zs_of (t := 92) (v := (.agg #[.nilFunc, .nilFunc])) (by kernel_rfl),
  zs_of (t := 93) (v := (.agg #[.nilFunc, .nilFunc, .nilFunc, .nilFunc, .nilFunc, .nilFunc, .nilFunc, .nilFunc, .nilFunc, .nilFunc, .nilFunc, .nilFunc, .nilFunc, .nilFunc])) (by kernel_rfl),
  zs_of (t := 94) (v := .nilFunc) (by kernel_rfl),
  zs_of (t := 95) (v := .nilFunc) (by kernel_rfl),
  zs_of (t := 96) (v := .nilFunc) (by kernel_rfl),
  zs_of (t := 97) (v := .nilFunc) (by kernel_rfl),
  zs_of (t := 98) (v := .nilFunc) (by kernel_rfl),
  zs_of (t := 99) (v := .nilFunc) (by kernel_rfl),
  zs_of (t := 100) (v := (.agg #[(.int .i64 0), (.int .i64 0), (.int .i64 0), (.int .i64 0), (.int .i64 0), (.int .i64 0)])) (by kernel_rfl),
  zs_of (t := 101) (v := (.agg #[(.int .i64 0), (.int .i64 0), (.int .i64 0), (.int .i64 0), (.int .i64 0), (.int .i64 0)])) (by kernel_rfl),
  zs_of (t := 102) (v := (.agg #[(.int .i64 0), (.int .i64 0), (.int .i64 0), (.int .i64 0), (.int .i64 0), (.int .i64 0), (.int .i64 0), (.int .i64 0), (.int .i64 0), (.int .i64 0), (.int .i64 0), (.int .i64 0), (.int .i64 0), (.int .i64 0), (.int .i64 0), (.int .i64 0), (.int .i64 0), (.int .i64 0), (.int .i64 0), (.int .i64 0), (.int .i64 0), (.int .i64 0), (.int .i64 0), (.int .i64 0), (.int .i64 0), (.int .i64 0), (.int .i64 0), (.int .i64 0), (.int .i64 0), (.int .i64 0), (.int .i64 0), (.int .i64 0), (.int .i64 0), (.int .i64 0), (.int .i64 0), (.int .i64 0)])) (by kernel_rfl),
  zs_of (t := 103) (v := .nilFunc) (by kernel_rfl),
  zs_of (t := 104) (v := .nilFunc) (by kernel_rfl),
  zs_of (t := 105) (v := .nilFunc) (by kernel_rfl),
  zs_of (t := 106) (v := .nilFunc) (by kernel_rfl),
  zs_of (t := 107) (v := .nilFunc) (by kernel_rfl),
  zs_of (t := 108) (v := .nilFunc) (by kernel_rfl),
  zs_of (t := 109) (v := .nilFunc) (by kernel_rfl),
  zs_of (t := 110) (v := .nilFunc) (by kernel_rfl),
  zs_of (t := 111) (v := (.slice none 0 0)) (by kernel_rfl),
  zs_of (t := 112) (v := .nilFunc) (by kernel_rfl),
  zs_of (t := 113) (v := .nilFunc) (by kernel_rfl),
  zs_of (t := 114) (v := .nilFunc) (by kernel_rfl),
  zs_of (t := 115) (v := .nilFunc) (by kernel_rfl),
  zs_of (t := 116) (v := .nilFunc) (by kernel_rfl),
  zs_of (t := 117) (v := .nilFunc) (by kernel_rfl),
  zs_of (t := 119) (v := .nilFunc) (by kernel_rfl),
  zs_of (t := 120) (v := .nilFunc) (by kernel_rfl),
  zs_of (t := 121) (v := .nilFunc) (by kernel_rfl),
  zs_of (t := 122) (v := .nilFunc) (by kernel_rfl),
  zs_of (t := 123) (v := (.int .u64 0)) (by kernel_rfl),
  zs_of (t := 124) (v := .nilFunc) (by kernel_rfl),
  zs_of (t := 125) (v := .nilFunc) (by kernel_rfl),
  zs_of (t := 126) (v := .nilFunc) (by kernel_rfl),
  zs_of (t := 127) (v := .nilFunc) (by kernel_rfl),
  zs_of (t := 128) (v := .nilFunc) (by kernel_rfl),
  zs_of (t := 129) (v := .nilFunc) (by kernel_rfl),
  zs_of (t := 130) (v := .nilFunc) (by kernel_rfl),
  zs_of (t := 131) (v := .nilFunc) (by kernel_rfl),
  zs_of (t := 132) (v := .nilFunc) (by kernel_rfl),
  zs_of (t := 133) (v := (.int .i64 0)) (by kernel_rfl),
  zs_of (t := 135) (v := .nilFunc) (by kernel_rfl),
  zs_of (t := 136) (v := .nilFunc) (by kernel_rfl),
  zs_of (t := 137) (v := .nilFunc) (by kernel_rfl),
  zs_of (t := 139) (v := .nilFunc) (by kernel_rfl),
  zs_of (t := 140) (v := .nilFunc) (by kernel_rfl),
  zs_of (t := 141) (v := (.int .u32 0)) (by kernel_rfl),
  zs_of (t := 142) (v := .nilFunc) (by kernel_rfl),
  zs_of (t := 143) (v := (.int .u64 0)) (by kernel_rfl),
  zs_of (t := 144) (v := .nilFunc) (by kernel_rfl),
  zs_of (t := 145) (v := .nilFunc) (by kernel_rfl),
  zs_of (t := 146) (v := .nilFunc) (by kernel_rfl),
  zs_of (t := 147) (v := .nilFunc) (by kernel_rfl),
  zs_of (t := 148) (v := .nilFunc) (by kernel_rfl),
  zs_of (t := 149) (v := .nilFunc) (by kernel_rfl),
  zs_of (t := 150) (v := (.int .u64 0)) (by kernel_rfl),
  zs_of (t := 151) (v := .nilFunc) (by kernel_rfl),
  zs_of (t := 152) (v := .nilFunc) (by kernel_rfl),
  zs_of (t := 153) (v := .nilFunc) (by kernel_rfl),
  zs_of (t := 154) (v := (.pointer none)) (by kernel_rfl),
  zs_of (t := 155) (v := .nilFunc) (by kernel_rfl),
  zs_of (t := 156) (v := .nilFunc) (by kernel_rfl),
  zs_of (t := 157) (v := .nilFunc) (by kernel_rfl),
  zs_of (t := 158) (v := (.pointer none)) (by kernel_rfl),
  zs_of (t := 159) (v := .nilFunc) (by kernel_rfl),
  zs_of (t := 160) (v := .nilFunc) (by kernel_rfl),
  zs_of (t := 161) (v := .nilFunc) (by kernel_rfl),
  zs_of (t := 162) (v := (.agg #[(.pointer none), (.pointer none), (.pointer none), (.string ⟨#[]⟩)])) (by kernel_rfl),
  zs_of (t := 163) (v := (.agg #[(.pointer none), (.pointer none), (.pointer none), (.string ⟨#[]⟩)])) (by kernel_rfl),
  zs_of (t := 167) (v := .nilFunc) (by kernel_rfl),
  zs_of (t := 168) (v := (.int .u8 0)) (by kernel_rfl),
  zs_of (t := 169) (v := (.int .u8 0)) (by kernel_rfl),
  zs_of (t := 170) (v := .nilFunc) (by kernel_rfl),
  zs_of (t := 171) (v := (.pointer none)) (by kernel_rfl),
  zs_of (t := 172) (v := (.int .i32 0)) (by kernel_rfl),
  zs_of (t := 173) (v := (.int .i32 0)) (by kernel_rfl),
  zs_of (t := 174) (v := (.agg #[(.int .u64 0), (.int .u64 0), (.int .u32 0), (.int .u8 0), (.int .u8 0), (.int .u8 0), (.int .u8 0), .nilFunc, (.pointer none), (.int .i32 0), (.int .i32 0)])) (by kernel_rfl),
  zs_of (t := 175) (v := (.agg #[(.int .u64 0), (.int .u64 0), (.int .u32 0), (.int .u8 0), (.int .u8 0), (.int .u8 0), (.int .u8 0), .nilFunc, (.pointer none), (.int .i32 0), (.int .i32 0)])) (by kernel_rfl)⟩
theorem ty_fo7 : ∀ f off, ([0, 1, 2, 3] : List Nat)[f]? = some off → ∀ a w, (Instr.fieldAt 7 (.pointer (some a)) f).run Tryd.prog w = .ok (.pointer (some (a.add off))) w := by
 intro f off h a w
 rcases f with _ | _ | _ | _ | f <;> simp at h <;> subst h <;> go_simp
theorem ty_fo8 : ∀ f off, ([0, 1, 2, 3] : List Nat)[f]? = some off → ∀ a w, (Instr.fieldAt 8 (.pointer (some a)) f).run Tryd.prog w = .ok (.pointer (some (a.add off))) w := by
 intro f off h a w
 rcases f with _ | _ | _ | _ | f <;> simp at h <;> subst h <;> go_simp
theorem ty_fo13 : ∀ f off, ([0, 1] : List Nat)[f]? = some off → ∀ a w, (Instr.fieldAt 13 (.pointer (some a)) f).run Tryd.prog w = .ok (.pointer (some (a.add off))) w := by
 intro f off h a w
 rcases f with _ | _ | f <;> simp at h <;> subst h <;> go_simp
theorem ty_fo14 : ∀ f off, ([0, 1] : List Nat)[f]? = some off → ∀ a w, (Instr.fieldAt 14 (.pointer (some a)) f).run Tryd.prog w = .ok (.pointer (some (a.add off))) w := by
 intro f off h a w
 rcases f with _ | _ | f <;> simp at h <;> subst h <;> go_simp
theorem ty_fo18 : ∀ f off, ([0] : List Nat)[f]? = some off → ∀ a w, (Instr.fieldAt 18 (.pointer (some a)) f).run Tryd.prog w = .ok (.pointer (some (a.add off))) w := by
 intro f off h a w
 rcases f with _ | f <;> simp at h <;> subst h <;> go_simp
theorem ty_fo19 : ∀ f off, ([0] : List Nat)[f]? = some off → ∀ a w, (Instr.fieldAt 19 (.pointer (some a)) f).run Tryd.prog w = .ok (.pointer (some (a.add off))) w := by
 intro f off h a w
 rcases f with _ | f <;> simp at h <;> subst h <;> go_simp
theorem ty_fo24 : ∀ f off, ([0, 1, 2, 3] : List Nat)[f]? = some off → ∀ a w, (Instr.fieldAt 24 (.pointer (some a)) f).run Tryd.prog w = .ok (.pointer (some (a.add off))) w := by
 intro f off h a w
 rcases f with _ | _ | _ | _ | f <;> simp at h <;> subst h <;> go_simp
theorem ty_fo25 : ∀ f off, ([0, 1, 2, 3] : List Nat)[f]? = some off → ∀ a w, (Instr.fieldAt 25 (.pointer (some a)) f).run Tryd.prog w = .ok (.pointer (some (a.add off))) w := by
 intro f off h a w
 rcases f with _ | _ | _ | _ | f <;> simp at h <;> subst h <;> go_simp
theorem ty_fo54 : ∀ f off, ([0, 1] : List Nat)[f]? = some off → ∀ a w, (Instr.fieldAt 54 (.pointer (some a)) f).run Tryd.prog w = .ok (.pointer (some (a.add off))) w := by
 intro f off h a w
 rcases f with _ | _ | f <;> simp at h <;> subst h <;> go_simp
theorem ty_fo55 : ∀ f off, ([0, 1] : List Nat)[f]? = some off → ∀ a w, (Instr.fieldAt 55 (.pointer (some a)) f).run Tryd.prog w = .ok (.pointer (some (a.add off))) w := by
 intro f off h a w
 rcases f with _ | _ | f <;> simp at h <;> subst h <;> go_simp
theorem ty_fo56 : ∀ f off, ([0, 1, 2] : List Nat)[f]? = some off → ∀ a w, (Instr.fieldAt 56 (.pointer (some a)) f).run Tryd.prog w = .ok (.pointer (some (a.add off))) w := by
 intro f off h a w
 rcases f with _ | _ | _ | f <;> simp at h <;> subst h <;> go_simp
theorem ty_fo57 : ∀ f off, ([0, 1, 2] : List Nat)[f]? = some off → ∀ a w, (Instr.fieldAt 57 (.pointer (some a)) f).run Tryd.prog w = .ok (.pointer (some (a.add off))) w := by
 intro f off h a w
 rcases f with _ | _ | _ | f <;> simp at h <;> subst h <;> go_simp
theorem ty_fo59 : ∀ f off, ([0, 1, 2, 3, 4, 6] : List Nat)[f]? = some off → ∀ a w, (Instr.fieldAt 59 (.pointer (some a)) f).run Tryd.prog w = .ok (.pointer (some (a.add off))) w := by
 intro f off h a w
 rcases f with _ | _ | _ | _ | _ | _ | f <;> simp at h <;> subst h <;> go_simp
theorem ty_fo60 : ∀ f off, ([0, 1, 2, 3, 4, 6] : List Nat)[f]? = some off → ∀ a w, (Instr.fieldAt 60 (.pointer (some a)) f).run Tryd.prog w = .ok (.pointer (some (a.add off))) w := by
 intro f off h a w
 rcases f with _ | _ | _ | _ | _ | _ | f <;> simp at h <;> subst h <;> go_simp
theorem ty_fo82 : ∀ f off, ([0, 4, 5] : List Nat)[f]? = some off → ∀ a w, (Instr.fieldAt 82 (.pointer (some a)) f).run Tryd.prog w = .ok (.pointer (some (a.add off))) w := by
 intro f off h a w
 rcases f with _ | _ | _ | f <;> simp at h <;> subst h <;> go_simp
theorem ty_fo83 : ∀ f off, ([0, 4, 5] : List Nat)[f]? = some off → ∀ a w, (Instr.fieldAt 83 (.pointer (some a)) f).run Tryd.prog w = .ok (.pointer (some (a.add off))) w := by
 intro f off h a w
 rcases f with _ | _ | _ | f <;> simp at h <;> subst h <;> go_simp
theorem ty_fo91 : ∀ f off, ([0, 1] : List Nat)[f]? = some off → ∀ a w, (Instr.fieldAt 91 (.pointer (some a)) f).run Tryd.prog w = .ok (.pointer (some (a.add off))) w := by
 intro f off h a w
 rcases f with _ | _ | f <;> simp at h <;> subst h <;> go_simp
theorem ty_fo92 : ∀ f off, ([0, 1] : List Nat)[f]? = some off → ∀ a w, (Instr.fieldAt 92 (.pointer (some a)) f).run Tryd.prog w = .ok (.pointer (some (a.add off))) w := by
 intro f off h a w
 rcases f with _ | _ | f <;> simp at h <;> subst h <;> go_simp
theorem ty_fo162 : ∀ f off, ([0, 1, 2, 3] : List Nat)[f]? = some off → ∀ a w, (Instr.fieldAt 162 (.pointer (some a)) f).run Tryd.prog w = .ok (.pointer (some (a.add off))) w := by
 intro f off h a w
 rcases f with _ | _ | _ | _ | f <;> simp at h <;> subst h <;> go_simp
theorem ty_fo163 : ∀ f off, ([0, 1, 2, 3] : List Nat)[f]? = some off → ∀ a w, (Instr.fieldAt 163 (.pointer (some a)) f).run Tryd.prog w = .ok (.pointer (some (a.add off))) w := by
 intro f off h a w
 rcases f with _ | _ | _ | _ | f <;> simp at h <;> subst h <;> go_simp
theorem ty_fo174 : ∀ f off, ([0, 1, 2, 3, 4, 5, 6, 7, 8, 9, 10] : List Nat)[f]? = some off → ∀ a w, (Instr.fieldAt 174 (.pointer (some a)) f).run Tryd.prog w = .ok (.pointer (some (a.add off))) w := by
 intro f off h a w
 rcases f with _ | _ | _ | _ | _ | _ | _ | _ | _ | _ | _ | f <;> simp at h <;> subst h <;> go_simp
theorem ty_fo175 : ∀ f off, ([0, 1, 2, 3, 4, 5, 6, 7, 8, 9, 10] : List Nat)[f]? = some off → ∀ a w, (Instr.fieldAt 175 (.pointer (some a)) f).run Tryd.prog w = .ok (.pointer (some (a.add off))) w := by
 intro f off h a w
 rcases f with _ | _ | _ | _ | _ | _ | _ | _ | _ | _ | _ | f <;> simp at h <;> subst h <;> go_simp
set_option maxRecDepth 10000 in
theorem ty_hfo : ∀ p ∈ ty_fo, ∀ f off, p.2[f]? = some off → ∀ a w, (Instr.fieldAt p.1 (.pointer (some a)) f).run Tryd.prog w = .ok (.pointer (some (a.add off))) w := by
 unfold ty_fo
 simp only [List.mem_cons, List.not_mem_nil, or_false, forall_eq_or_imp, forall_eq]
 exact ⟨ty_fo7,
  ty_fo8,
  ty_fo13,
  ty_fo14,
  ty_fo18,
  ty_fo19,
  ty_fo24,
  ty_fo25,
  ty_fo54,
  ty_fo55,
  ty_fo56,
  ty_fo57,
  ty_fo59,
  ty_fo60,
  ty_fo82,
  ty_fo83,
  ty_fo91,
  ty_fo92,
  ty_fo162,
  ty_fo163,
  ty_fo174,
  ty_fo175⟩
set_option maxRecDepth 10000 in
theorem ty_hel : ∀ p ∈ ty_el, Tryd.prog.underlying p.1 = some (.slice p.2) := by
 unfold ty_el
 simp only [List.mem_cons, List.not_mem_nil, or_false, forall_eq_or_imp, forall_eq]
 exact ⟨Tryd.underlying22,
  Tryd.underlying23,
  Tryd.underlying28,
  Tryd.underlying34,
  Tryd.underlying74,
  Tryd.underlying80,
  Tryd.underlying81,
  Tryd.underlying111⟩
set_option maxRecDepth 10000 in
theorem ty_hik : ∀ p ∈ ty_ik, Tryd.prog.underlying p.1 = some (.int p.2) := by
 unfold ty_ik
 simp only [List.mem_cons, List.not_mem_nil, or_false, forall_eq_or_imp, forall_eq]
 exact ⟨Tryd.underlying2,
  Tryd.underlying3,
  Tryd.underlying5,
  Tryd.underlying6,
  Tryd.underlying12,
  Tryd.underlying21,
  Tryd.underlying29,
  Tryd.underlying123,
  Tryd.underlying133,
  Tryd.underlying141,
  Tryd.underlying143,
  Tryd.underlying150,
  Tryd.underlying168,
  Tryd.underlying169,
  Tryd.underlying172,
  Tryd.underlying173⟩
set_option maxRecDepth 10000 in
theorem ty_hmp : ∀ p ∈ ty_mp, Tryd.prog.underlying p.1 = some (.map p.2.1 p.2.2) := by
 unfold ty_mp
 simp only [List.mem_cons, List.not_mem_nil, or_false, forall_eq_or_imp, forall_eq]
 exact Tryd.underlying65
theorem ty_mixed : Tryd.prog.follows .mixedOrders = true := by kernel_rfl
def ty_inf : List (Nat × Value × Nat × Nat) := [(3, (.int .i64 0), 1, 8), (4, (.bool false), 1, 1), (23, (.slice none 0 0), 1, 24), (34, (.slice none 0 0), 1, 24), (55, (.agg #[(.int .i64 0), (.int .i64 0)]), 2, 16), (57, (.agg #[(.int .i64 0), (.int .i64 0), (.int .i64 0), (.int .i64 0)]), 4, 32), (60, (.agg #[(.int .i64 0), (.int .u8 0), (.int .i64 0), (.int .i64 0), (.int .i64 0), (.int .i64 0), (.int .i64 0)]), 7, 56), (102, (.agg #[(.int .i64 0), (.int .i64 0), (.int .i64 0), (.int .i64 0), (.int .i64 0), (.int .i64 0), (.int .i64 0), (.int .i64 0), (.int .i64 0), (.int .i64 0), (.int .i64 0), (.int .i64 0), (.int .i64 0), (.int .i64 0), (.int .i64 0), (.int .i64 0), (.int .i64 0), (.int .i64 0), (.int .i64 0), (.int .i64 0), (.int .i64 0), (.int .i64 0), (.int .i64 0), (.int .i64 0), (.int .i64 0), (.int .i64 0), (.int .i64 0), (.int .i64 0), (.int .i64 0), (.int .i64 0), (.int .i64 0), (.int .i64 0), (.int .i64 0), (.int .i64 0), (.int .i64 0), (.int .i64 0)]), 36, 288)]
set_option maxRecDepth 10000 in
theorem ty_hinf : ∀ p ∈ ty_inf, (Tryd.prog.info? p.1).map (fun i => (i.zero, i.size, i.bytes)) = some (some p.2.1, p.2.2.1, p.2.2.2) := by
 unfold ty_inf
 simp only [List.mem_cons, List.not_mem_nil, or_false, forall_eq_or_imp, forall_eq]
 exact ⟨(by kernel_rfl),
  (by kernel_rfl),
  (by kernel_rfl),
  (by kernel_rfl),
  (by kernel_rfl),
  (by kernel_rfl),
  (by kernel_rfl),
  (by kernel_rfl)⟩
def T_ : Tys Tryd.prog := ⟨ty_mixed, ty_tk, ty_htk, ty_zs, ty_hzs, ty_fo, ty_hfo, ty_el, ty_hel, ty_ik, ty_hik, ty_mp, ty_hmp⟩
def TR_ : TysR Tryd.prog := { T_ with inf := ty_inf, hinf := ty_hinf }
set_option maxRecDepth 10000 in
theorem ty_bl7 : ∀ (parts : Array (Nat × Value)) (cs : Array Value) (w : World), Instr.fill (fun i => ([(0, 1), (1, 1), (2, 1), (3, 1)] : List (Nat × Nat))[i]?) #[(.int .i64 0), (.int .i64 0), (.bool false), (.int .u8 0)] parts.toList = some cs → (Instr.build 7 parts).run Tryd.prog w = .ok (.agg cs) w := by
 intro parts cs w h
 unfold Instr.build
 have hz : (zeroValue 7).run Tryd.prog w = .ok (.agg #[(.int .i64 0), (.int .i64 0), (.bool false), (.int .u8 0)]) w := ty_hzs (7, .agg #[(.int .i64 0), (.int .i64 0), (.bool false), (.int .u8 0)]) (look_mem (l := ty_zs) rfl) w
 have hu := run_underlying Tryd.underlying7 w
 simp only [Sem.run_bind, hz, hu, Result.andThen_ok, Value.cells]
 simp [Array.mapM_eq_foldlM]
 rw [h]
 rfl
set_option maxRecDepth 10000 in
theorem ty_bl8 : ∀ (parts : Array (Nat × Value)) (cs : Array Value) (w : World), Instr.fill (fun i => ([(0, 1), (1, 1), (2, 1), (3, 1)] : List (Nat × Nat))[i]?) #[(.int .i64 0), (.int .i64 0), (.bool false), (.int .u8 0)] parts.toList = some cs → (Instr.build 8 parts).run Tryd.prog w = .ok (.agg cs) w := by
 intro parts cs w h
 unfold Instr.build
 have hz : (zeroValue 8).run Tryd.prog w = .ok (.agg #[(.int .i64 0), (.int .i64 0), (.bool false), (.int .u8 0)]) w := ty_hzs (8, .agg #[(.int .i64 0), (.int .i64 0), (.bool false), (.int .u8 0)]) (look_mem (l := ty_zs) rfl) w
 have hu := run_underlying Tryd.underlying8 w
 simp only [Sem.run_bind, hz, hu, Result.andThen_ok, Value.cells]
 simp [Array.mapM_eq_foldlM]
 rw [h]
 rfl
set_option maxRecDepth 10000 in
theorem ty_bl13 : ∀ (parts : Array (Nat × Value)) (cs : Array Value) (w : World), Instr.fill (fun i => ([(0, 1), (1, 1)] : List (Nat × Nat))[i]?) #[(.string ⟨#[]⟩), (.int .u64 0)] parts.toList = some cs → (Instr.build 13 parts).run Tryd.prog w = .ok (.agg cs) w := by
 intro parts cs w h
 unfold Instr.build
 have hz : (zeroValue 13).run Tryd.prog w = .ok (.agg #[(.string ⟨#[]⟩), (.int .u64 0)]) w := ty_hzs (13, .agg #[(.string ⟨#[]⟩), (.int .u64 0)]) (look_mem (l := ty_zs) rfl) w
 have hu := run_underlying Tryd.underlying13 w
 simp only [Sem.run_bind, hz, hu, Result.andThen_ok, Value.cells]
 simp [Array.mapM_eq_foldlM]
 rw [h]
 rfl
set_option maxRecDepth 10000 in
theorem ty_bl14 : ∀ (parts : Array (Nat × Value)) (cs : Array Value) (w : World), Instr.fill (fun i => ([(0, 1), (1, 1)] : List (Nat × Nat))[i]?) #[(.string ⟨#[]⟩), (.int .u64 0)] parts.toList = some cs → (Instr.build 14 parts).run Tryd.prog w = .ok (.agg cs) w := by
 intro parts cs w h
 unfold Instr.build
 have hz : (zeroValue 14).run Tryd.prog w = .ok (.agg #[(.string ⟨#[]⟩), (.int .u64 0)]) w := ty_hzs (14, .agg #[(.string ⟨#[]⟩), (.int .u64 0)]) (look_mem (l := ty_zs) rfl) w
 have hu := run_underlying Tryd.underlying14 w
 simp only [Sem.run_bind, hz, hu, Result.andThen_ok, Value.cells]
 simp [Array.mapM_eq_foldlM]
 rw [h]
 rfl
set_option maxRecDepth 10000 in
theorem ty_bl18 : ∀ (parts : Array (Nat × Value)) (cs : Array Value) (w : World), Instr.fill (fun i => ([(0, 1)] : List (Nat × Nat))[i]?) #[(.pointer none)] parts.toList = some cs → (Instr.build 18 parts).run Tryd.prog w = .ok (.agg cs) w := by
 intro parts cs w h
 unfold Instr.build
 have hz : (zeroValue 18).run Tryd.prog w = .ok (.agg #[(.pointer none)]) w := ty_hzs (18, .agg #[(.pointer none)]) (look_mem (l := ty_zs) rfl) w
 have hu := run_underlying Tryd.underlying18 w
 simp only [Sem.run_bind, hz, hu, Result.andThen_ok, Value.cells]
 simp [Array.mapM_eq_foldlM]
 rw [h]
 rfl
set_option maxRecDepth 10000 in
theorem ty_bl19 : ∀ (parts : Array (Nat × Value)) (cs : Array Value) (w : World), Instr.fill (fun i => ([(0, 1)] : List (Nat × Nat))[i]?) #[(.pointer none)] parts.toList = some cs → (Instr.build 19 parts).run Tryd.prog w = .ok (.agg cs) w := by
 intro parts cs w h
 unfold Instr.build
 have hz : (zeroValue 19).run Tryd.prog w = .ok (.agg #[(.pointer none)]) w := ty_hzs (19, .agg #[(.pointer none)]) (look_mem (l := ty_zs) rfl) w
 have hu := run_underlying Tryd.underlying19 w
 simp only [Sem.run_bind, hz, hu, Result.andThen_ok, Value.cells]
 simp [Array.mapM_eq_foldlM]
 rw [h]
 rfl
set_option maxRecDepth 10000 in
theorem ty_bl24 : ∀ (parts : Array (Nat × Value)) (cs : Array Value) (w : World), Instr.fill (fun i => ([(0, 1), (1, 1), (2, 1), (3, 1)] : List (Nat × Nat))[i]?) #[(.int .i64 0), (.slice none 0 0), (.int .i64 0), (.slice none 0 0)] parts.toList = some cs → (Instr.build 24 parts).run Tryd.prog w = .ok (.agg cs) w := by
 intro parts cs w h
 unfold Instr.build
 have hz : (zeroValue 24).run Tryd.prog w = .ok (.agg #[(.int .i64 0), (.slice none 0 0), (.int .i64 0), (.slice none 0 0)]) w := ty_hzs (24, .agg #[(.int .i64 0), (.slice none 0 0), (.int .i64 0), (.slice none 0 0)]) (look_mem (l := ty_zs) rfl) w
 have hu := run_underlying Tryd.underlying24 w
 simp only [Sem.run_bind, hz, hu, Result.andThen_ok, Value.cells]
 simp [Array.mapM_eq_foldlM]
 rw [h]
 rfl
set_option maxRecDepth 10000 in
theorem ty_bl25 : ∀ (parts : Array (Nat × Value)) (cs : Array Value) (w : World), Instr.fill (fun i => ([(0, 1), (1, 1), (2, 1), (3, 1)] : List (Nat × Nat))[i]?) #[(.int .i64 0), (.slice none 0 0), (.int .i64 0), (.slice none 0 0)] parts.toList = some cs → (Instr.build 25 parts).run Tryd.prog w = .ok (.agg cs) w := by
 intro parts cs w h
 unfold Instr.build
 have hz : (zeroValue 25).run Tryd.prog w = .ok (.agg #[(.int .i64 0), (.slice none 0 0), (.int .i64 0), (.slice none 0 0)]) w := ty_hzs (25, .agg #[(.int .i64 0), (.slice none 0 0), (.int .i64 0), (.slice none 0 0)]) (look_mem (l := ty_zs) rfl) w
 have hu := run_underlying Tryd.underlying25 w
 simp only [Sem.run_bind, hz, hu, Result.andThen_ok, Value.cells]
 simp [Array.mapM_eq_foldlM]
 rw [h]
 rfl
set_option maxRecDepth 10000 in
theorem ty_bl54 : ∀ (parts : Array (Nat × Value)) (cs : Array Value) (w : World), Instr.fill (fun i => ([(0, 1), (1, 1)] : List (Nat × Nat))[i]?) #[(.int .i64 0), (.int .i64 0)] parts.toList = some cs → (Instr.build 54 parts).run Tryd.prog w = .ok (.agg cs) w := by
 intro parts cs w h
 unfold Instr.build
 have hz : (zeroValue 54).run Tryd.prog w = .ok (.agg #[(.int .i64 0), (.int .i64 0)]) w := ty_hzs (54, .agg #[(.int .i64 0), (.int .i64 0)]) (look_mem (l := ty_zs) rfl) w
 have hu := run_underlying Tryd.underlying54 w
 simp only [Sem.run_bind, hz, hu, Result.andThen_ok, Value.cells]
 simp [Array.mapM_eq_foldlM]
 rw [h]
 rfl
set_option maxRecDepth 10000 in
theorem ty_bl55 : ∀ (parts : Array (Nat × Value)) (cs : Array Value) (w : World), Instr.fill (fun i => ([(0, 1), (1, 1)] : List (Nat × Nat))[i]?) #[(.int .i64 0), (.int .i64 0)] parts.toList = some cs → (Instr.build 55 parts).run Tryd.prog w = .ok (.agg cs) w := by
 intro parts cs w h
 unfold Instr.build
 have hz : (zeroValue 55).run Tryd.prog w = .ok (.agg #[(.int .i64 0), (.int .i64 0)]) w := ty_hzs (55, .agg #[(.int .i64 0), (.int .i64 0)]) (look_mem (l := ty_zs) rfl) w
 have hu := run_underlying Tryd.underlying55 w
 simp only [Sem.run_bind, hz, hu, Result.andThen_ok, Value.cells]
 simp [Array.mapM_eq_foldlM]
 rw [h]
 rfl
set_option maxRecDepth 10000 in
theorem ty_bl56 : ∀ (parts : Array (Nat × Value)) (cs : Array Value) (w : World), Instr.fill (fun i => ([(0, 1), (1, 1), (2, 2)] : List (Nat × Nat))[i]?) #[(.int .i64 0), (.int .i64 0), (.int .i64 0), (.int .i64 0)] parts.toList = some cs → (Instr.build 56 parts).run Tryd.prog w = .ok (.agg cs) w := by
 intro parts cs w h
 unfold Instr.build
 have hz : (zeroValue 56).run Tryd.prog w = .ok (.agg #[(.int .i64 0), (.int .i64 0), (.int .i64 0), (.int .i64 0)]) w := ty_hzs (56, .agg #[(.int .i64 0), (.int .i64 0), (.int .i64 0), (.int .i64 0)]) (look_mem (l := ty_zs) rfl) w
 have hu := run_underlying Tryd.underlying56 w
 simp only [Sem.run_bind, hz, hu, Result.andThen_ok, Value.cells]
 simp [Array.mapM_eq_foldlM]
 rw [h]
 rfl
set_option maxRecDepth 10000 in
theorem ty_bl57 : ∀ (parts : Array (Nat × Value)) (cs : Array Value) (w : World), Instr.fill (fun i => ([(0, 1), (1, 1), (2, 2)] : List (Nat × Nat))[i]?) #[(.int .i64 0), (.int .i64 0), (.int .i64 0), (.int .i64 0)] parts.toList = some cs → (Instr.build 57 parts).run Tryd.prog w = .ok (.agg cs) w := by
 intro parts cs w h
 unfold Instr.build
 have hz : (zeroValue 57).run Tryd.prog w = .ok (.agg #[(.int .i64 0), (.int .i64 0), (.int .i64 0), (.int .i64 0)]) w := ty_hzs (57, .agg #[(.int .i64 0), (.int .i64 0), (.int .i64 0), (.int .i64 0)]) (look_mem (l := ty_zs) rfl) w
 have hu := run_underlying Tryd.underlying57 w
 simp only [Sem.run_bind, hz, hu, Result.andThen_ok, Value.cells]
 simp [Array.mapM_eq_foldlM]
 rw [h]
 rfl
set_option maxRecDepth 10000 in
theorem ty_bl59 : ∀ (parts : Array (Nat × Value)) (cs : Array Value) (w : World), Instr.fill (fun i => ([(0, 1), (1, 1), (2, 1), (3, 1), (4, 2), (6, 1)] : List (Nat × Nat))[i]?) #[(.int .i64 0), (.int .u8 0), (.int .i64 0), (.int .i64 0), (.int .i64 0), (.int .i64 0), (.int .i64 0)] parts.toList = some cs → (Instr.build 59 parts).run Tryd.prog w = .ok (.agg cs) w := by
 intro parts cs w h
 unfold Instr.build
 have hz : (zeroValue 59).run Tryd.prog w = .ok (.agg #[(.int .i64 0), (.int .u8 0), (.int .i64 0), (.int .i64 0), (.int .i64 0), (.int .i64 0), (.int .i64 0)]) w := ty_hzs (59, .agg #[(.int .i64 0), (.int .u8 0), (.int .i64 0), (.int .i64 0), (.int .i64 0), (.int .i64 0), (.int .i64 0)]) (look_mem (l := ty_zs) rfl) w
 have hu := run_underlying Tryd.underlying59 w
 simp only [Sem.run_bind, hz, hu, Result.andThen_ok, Value.cells]
 simp [Array.mapM_eq_foldlM]
 rw [h]
 rfl
set_option maxRecDepth 10000 in
theorem ty_bl60 : ∀ (parts : Array (Nat × Value)) (cs : Array Value) (w : World), Instr.fill (fun i => ([(0, 1), (1, 1), (2, 1), (3, 1), (4, 2), (6, 1)] : List (Nat × Nat))[i]?) #[(.int .i64 0), (.int .u8 0), (.int .i64 0), (.int .i64 0), (.int .i64 0), (.int .i64 0), (.int .i64 0)] parts.toList = some cs → (Instr.build 60 parts).run Tryd.prog w = .ok (.agg cs) w := by
 intro parts cs w h
 unfold Instr.build
 have hz : (zeroValue 60).run Tryd.prog w = .ok (.agg #[(.int .i64 0), (.int .u8 0), (.int .i64 0), (.int .i64 0), (.int .i64 0), (.int .i64 0), (.int .i64 0)]) w := ty_hzs (60, .agg #[(.int .i64 0), (.int .u8 0), (.int .i64 0), (.int .i64 0), (.int .i64 0), (.int .i64 0), (.int .i64 0)]) (look_mem (l := ty_zs) rfl) w
 have hu := run_underlying Tryd.underlying60 w
 simp only [Sem.run_bind, hz, hu, Result.andThen_ok, Value.cells]
 simp [Array.mapM_eq_foldlM]
 rw [h]
 rfl
set_option maxRecDepth 10000 in
theorem ty_bl82 : ∀ (parts : Array (Nat × Value)) (cs : Array Value) (w : World), Instr.fill (fun i => ([(0, 4), (4, 1), (5, 1)] : List (Nat × Nat))[i]?) #[(.int .i64 0), (.slice none 0 0), (.int .i64 0), (.slice none 0 0), (.slice none 0 0), (.slice none 0 0)] parts.toList = some cs → (Instr.build 82 parts).run Tryd.prog w = .ok (.agg cs) w := by
 intro parts cs w h
 unfold Instr.build
 have hz : (zeroValue 82).run Tryd.prog w = .ok (.agg #[(.int .i64 0), (.slice none 0 0), (.int .i64 0), (.slice none 0 0), (.slice none 0 0), (.slice none 0 0)]) w := ty_hzs (82, .agg #[(.int .i64 0), (.slice none 0 0), (.int .i64 0), (.slice none 0 0), (.slice none 0 0), (.slice none 0 0)]) (look_mem (l := ty_zs) rfl) w
 have hu := run_underlying Tryd.underlying82 w
 simp only [Sem.run_bind, hz, hu, Result.andThen_ok, Value.cells]
 simp [Array.mapM_eq_foldlM]
 rw [h]
 rfl
set_option maxRecDepth 10000 in
theorem ty_bl83 : ∀ (parts : Array (Nat × Value)) (cs : Array Value) (w : World), Instr.fill (fun i => ([(0, 4), (4, 1), (5, 1)] : List (Nat × Nat))[i]?) #[(.int .i64 0), (.slice none 0 0), (.int .i64 0), (.slice none 0 0), (.slice none 0 0), (.slice none 0 0)] parts.toList = some cs → (Instr.build 83 parts).run Tryd.prog w = .ok (.agg cs) w := by
 intro parts cs w h
 unfold Instr.build
 have hz : (zeroValue 83).run Tryd.prog w = .ok (.agg #[(.int .i64 0), (.slice none 0 0), (.int .i64 0), (.slice none 0 0), (.slice none 0 0), (.slice none 0 0)]) w := ty_hzs (83, .agg #[(.int .i64 0), (.slice none 0 0), (.int .i64 0), (.slice none 0 0), (.slice none 0 0), (.slice none 0 0)]) (look_mem (l := ty_zs) rfl) w
 have hu := run_underlying Tryd.underlying83 w
 simp only [Sem.run_bind, hz, hu, Result.andThen_ok, Value.cells]
 simp [Array.mapM_eq_foldlM]
 rw [h]
 rfl
set_option maxRecDepth 10000 in
theorem ty_bl91 : ∀ (parts : Array (Nat × Value)) (cs : Array Value) (w : World), Instr.fill (fun i => ([(0, 1), (1, 1)] : List (Nat × Nat))[i]?) #[.nilFunc, .nilFunc] parts.toList = some cs → (Instr.build 91 parts).run Tryd.prog w = .ok (.agg cs) w := by
 intro parts cs w h
 unfold Instr.build
 have hz : (zeroValue 91).run Tryd.prog w = .ok (.agg #[.nilFunc, .nilFunc]) w := ty_hzs (91, .agg #[.nilFunc, .nilFunc]) (look_mem (l := ty_zs) rfl) w
 have hu := run_underlying Tryd.underlying91 w
 simp only [Sem.run_bind, hz, hu, Result.andThen_ok, Value.cells]
 simp [Array.mapM_eq_foldlM]
 rw [h]
 rfl
set_option maxRecDepth 10000 in
theorem ty_bl92 : ∀ (parts : Array (Nat × Value)) (cs : Array Value) (w : World), Instr.fill (fun i => ([(0, 1), (1, 1)] : List (Nat × Nat))[i]?) #[.nilFunc, .nilFunc] parts.toList = some cs → (Instr.build 92 parts).run Tryd.prog w = .ok (.agg cs) w := by
 intro parts cs w h
 unfold Instr.build
 have hz : (zeroValue 92).run Tryd.prog w = .ok (.agg #[.nilFunc, .nilFunc]) w := ty_hzs (92, .agg #[.nilFunc, .nilFunc]) (look_mem (l := ty_zs) rfl) w
 have hu := run_underlying Tryd.underlying92 w
 simp only [Sem.run_bind, hz, hu, Result.andThen_ok, Value.cells]
 simp [Array.mapM_eq_foldlM]
 rw [h]
 rfl
set_option maxRecDepth 10000 in
theorem ty_bl162 : ∀ (parts : Array (Nat × Value)) (cs : Array Value) (w : World), Instr.fill (fun i => ([(0, 1), (1, 1), (2, 1), (3, 1)] : List (Nat × Nat))[i]?) #[(.pointer none), (.pointer none), (.pointer none), (.string ⟨#[]⟩)] parts.toList = some cs → (Instr.build 162 parts).run Tryd.prog w = .ok (.agg cs) w := by
 intro parts cs w h
 unfold Instr.build
 have hz : (zeroValue 162).run Tryd.prog w = .ok (.agg #[(.pointer none), (.pointer none), (.pointer none), (.string ⟨#[]⟩)]) w := ty_hzs (162, .agg #[(.pointer none), (.pointer none), (.pointer none), (.string ⟨#[]⟩)]) (look_mem (l := ty_zs) rfl) w
 have hu := run_underlying Tryd.underlying162 w
 simp only [Sem.run_bind, hz, hu, Result.andThen_ok, Value.cells]
 simp [Array.mapM_eq_foldlM]
 rw [h]
 rfl
set_option maxRecDepth 10000 in
theorem ty_bl163 : ∀ (parts : Array (Nat × Value)) (cs : Array Value) (w : World), Instr.fill (fun i => ([(0, 1), (1, 1), (2, 1), (3, 1)] : List (Nat × Nat))[i]?) #[(.pointer none), (.pointer none), (.pointer none), (.string ⟨#[]⟩)] parts.toList = some cs → (Instr.build 163 parts).run Tryd.prog w = .ok (.agg cs) w := by
 intro parts cs w h
 unfold Instr.build
 have hz : (zeroValue 163).run Tryd.prog w = .ok (.agg #[(.pointer none), (.pointer none), (.pointer none), (.string ⟨#[]⟩)]) w := ty_hzs (163, .agg #[(.pointer none), (.pointer none), (.pointer none), (.string ⟨#[]⟩)]) (look_mem (l := ty_zs) rfl) w
 have hu := run_underlying Tryd.underlying163 w
 simp only [Sem.run_bind, hz, hu, Result.andThen_ok, Value.cells]
 simp [Array.mapM_eq_foldlM]
 rw [h]
 rfl
set_option maxRecDepth 10000 in
theorem ty_bl174 : ∀ (parts : Array (Nat × Value)) (cs : Array Value) (w : World), Instr.fill (fun i => ([(0, 1), (1, 1), (2, 1), (3, 1), (4, 1), (5, 1), (6, 1), (7, 1), (8, 1), (9, 1), (10, 1)] : List (Nat × Nat))[i]?) #[(.int .u64 0), (.int .u64 0), (.int .u32 0), (.int .u8 0), (.int .u8 0), (.int .u8 0), (.int .u8 0), .nilFunc, (.pointer none), (.int .i32 0), (.int .i32 0)] parts.toList = some cs → (Instr.build 174 parts).run Tryd.prog w = .ok (.agg cs) w := by
 intro parts cs w h
 unfold Instr.build
 have hz : (zeroValue 174).run Tryd.prog w = .ok (.agg #[(.int .u64 0), (.int .u64 0), (.int .u32 0), (.int .u8 0), (.int .u8 0), (.int .u8 0), (.int .u8 0), .nilFunc, (.pointer none), (.int .i32 0), (.int .i32 0)]) w := ty_hzs (174, .agg #[(.int .u64 0), (.int .u64 0), (.int .u32 0), (.int .u8 0), (.int .u8 0), (.int .u8 0), (.int .u8 0), .nilFunc, (.pointer none), (.int .i32 0), (.int .i32 0)]) (look_mem (l := ty_zs) rfl) w
 have hu := run_underlying Tryd.underlying174 w
 simp only [Sem.run_bind, hz, hu, Result.andThen_ok, Value.cells]
 simp [Array.mapM_eq_foldlM]
 rw [h]
 rfl
set_option maxRecDepth 10000 in
theorem ty_bl175 : ∀ (parts : Array (Nat × Value)) (cs : Array Value) (w : World), Instr.fill (fun i => ([(0, 1), (1, 1), (2, 1), (3, 1), (4, 1), (5, 1), (6, 1), (7, 1), (8, 1), (9, 1), (10, 1)] : List (Nat × Nat))[i]?) #[(.int .u64 0), (.int .u64 0), (.int .u32 0), (.int .u8 0), (.int .u8 0), (.int .u8 0), (.int .u8 0), .nilFunc, (.pointer none), (.int .i32 0), (.int .i32 0)] parts.toList = some cs → (Instr.build 175 parts).run Tryd.prog w = .ok (.agg cs) w := by
 intro parts cs w h
 unfold Instr.build
 have hz : (zeroValue 175).run Tryd.prog w = .ok (.agg #[(.int .u64 0), (.int .u64 0), (.int .u32 0), (.int .u8 0), (.int .u8 0), (.int .u8 0), (.int .u8 0), .nilFunc, (.pointer none), (.int .i32 0), (.int .i32 0)]) w := ty_hzs (175, .agg #[(.int .u64 0), (.int .u64 0), (.int .u32 0), (.int .u8 0), (.int .u8 0), (.int .u8 0), (.int .u8 0), .nilFunc, (.pointer none), (.int .i32 0), (.int .i32 0)]) (look_mem (l := ty_zs) rfl) w
 have hu := run_underlying Tryd.underlying175 w
 simp only [Sem.run_bind, hz, hu, Result.andThen_ok, Value.cells]
 simp [Array.mapM_eq_foldlM]
 rw [h]
 rfl
def ty_bl : List (Nat × List (Nat × Nat) × Array Value) := [(7, [(0, 1), (1, 1), (2, 1), (3, 1)], #[(.int .i64 0), (.int .i64 0), (.bool false), (.int .u8 0)]), (8, [(0, 1), (1, 1), (2, 1), (3, 1)], #[(.int .i64 0), (.int .i64 0), (.bool false), (.int .u8 0)]), (13, [(0, 1), (1, 1)], #[(.string ⟨#[]⟩), (.int .u64 0)]), (14, [(0, 1), (1, 1)], #[(.string ⟨#[]⟩), (.int .u64 0)]), (18, [(0, 1)], #[(.pointer none)]), (19, [(0, 1)], #[(.pointer none)]), (24, [(0, 1), (1, 1), (2, 1), (3, 1)], #[(.int .i64 0), (.slice none 0 0), (.int .i64 0), (.slice none 0 0)]), (25, [(0, 1), (1, 1), (2, 1), (3, 1)], #[(.int .i64 0), (.slice none 0 0), (.int .i64 0), (.slice none 0 0)]), (54, [(0, 1), (1, 1)], #[(.int .i64 0), (.int .i64 0)]), (55, [(0, 1), (1, 1)], #[(.int .i64 0), (.int .i64 0)]), (56, [(0, 1), (1, 1), (2, 2)], #[(.int .i64 0), (.int .i64 0), (.int .i64 0), (.int .i64 0)]), (57, [(0, 1), (1, 1), (2, 2)], #[(.int .i64 0), (.int .i64 0), (.int .i64 0), (.int .i64 0)]), (59, [(0, 1), (1, 1), (2, 1), (3, 1), (4, 2), (6, 1)], #[(.int .i64 0), (.int .u8 0), (.int .i64 0), (.int .i64 0), (.int .i64 0), (.int .i64 0), (.int .i64 0)]), (60, [(0, 1), (1, 1), (2, 1), (3, 1), (4, 2), (6, 1)], #[(.int .i64 0), (.int .u8 0), (.int .i64 0), (.int .i64 0), (.int .i64 0), (.int .i64 0), (.int .i64 0)]), (82, [(0, 4), (4, 1), (5, 1)], #[(.int .i64 0), (.slice none 0 0), (.int .i64 0), (.slice none 0 0), (.slice none 0 0), (.slice none 0 0)]), (83, [(0, 4), (4, 1), (5, 1)], #[(.int .i64 0), (.slice none 0 0), (.int .i64 0), (.slice none 0 0), (.slice none 0 0), (.slice none 0 0)]), (91, [(0, 1), (1, 1)], #[.nilFunc, .nilFunc]), (92, [(0, 1), (1, 1)], #[.nilFunc, .nilFunc]), (162, [(0, 1), (1, 1), (2, 1), (3, 1)], #[(.pointer none), (.pointer none), (.pointer none), (.string ⟨#[]⟩)]), (163, [(0, 1), (1, 1), (2, 1), (3, 1)], #[(.pointer none), (.pointer none), (.pointer none), (.string ⟨#[]⟩)]), (174, [(0, 1), (1, 1), (2, 1), (3, 1), (4, 1), (5, 1), (6, 1), (7, 1), (8, 1), (9, 1), (10, 1)], #[(.int .u64 0), (.int .u64 0), (.int .u32 0), (.int .u8 0), (.int .u8 0), (.int .u8 0), (.int .u8 0), .nilFunc, (.pointer none), (.int .i32 0), (.int .i32 0)]), (175, [(0, 1), (1, 1), (2, 1), (3, 1), (4, 1), (5, 1), (6, 1), (7, 1), (8, 1), (9, 1), (10, 1)], #[(.int .u64 0), (.int .u64 0), (.int .u32 0), (.int .u8 0), (.int .u8 0), (.int .u8 0), (.int .u8 0), .nilFunc, (.pointer none), (.int .i32 0), (.int .i32 0)])]
set_option maxRecDepth 10000 in
theorem ty_hbl : ∀ p ∈ ty_bl, ∀ (parts : Array (Nat × Value)) (cs : Array Value) (w : World), Instr.fill (fun i => p.2.1[i]?) p.2.2 parts.toList = some cs → (Instr.build p.1 parts).run Tryd.prog w = .ok (.agg cs) w := by
 unfold ty_bl
 simp only [List.mem_cons, List.not_mem_nil, or_false, forall_eq_or_imp, forall_eq]
 exact ⟨ty_bl7,
  ty_bl8,
  ty_bl13,
  ty_bl14,
  ty_bl18,
  ty_bl19,
  ty_bl24,
  ty_bl25,
  ty_bl54,
  ty_bl55,
  ty_bl56,
  ty_bl57,
  ty_bl59,
  ty_bl60,
  ty_bl82,
  ty_bl83,
  ty_bl91,
  ty_bl92,
  ty_bl162,
  ty_bl163,
  ty_bl174,
  ty_bl175⟩
def TB_ : TysB Tryd.prog := { TR_ with bl := ty_bl, hbl := ty_hbl }
end Go.Proofs.YtommeljlfkmpjaaDoor
namespace Go.Proofs.YtommeljlfkmpjaaDoor.Q
open Go.RowKit
abbrev Slots := List (Nat × Value)
def slot (i : Nat) : Slots → Option Value
 | [] => none
 | p :: r => bif Nat.beq p.1 i then some p.2 else slot i r
def ev (σ : Slots) : Operand → Option Value
 | .tmp t => slot t σ
 | .const v => some v
 | .global g => some (.pointer (some ⟨g, 0, none⟩))
 | .func f => some (.func (.func f) #[] #[])
def evs (σ : Slots) : List Operand → Option (List Value)
 | [] => some []
 | x :: r => match ev σ x, evs σ r with
  | some v, some vs => some (v :: vs)
  | _, _ => none
def putS : Option Tmp → Value → Slots → Slots
 | some d, v, σ => (d, v) :: σ
 | none, _, σ => σ
def dstOK (N : Nat) : Option Tmp → Bool
 | some d => Nat.blt d N
 | none => true
structure SOK (N : Nat) (ds : List Deferred) (σ : Slots) (a : Act) : Prop where
 sz : a.tmps.size = N
 sl : ∀ i v, slot i σ = some v → a.tmps[i]? = some v
 df : a.defers = ds
theorem getD_of {α : Type} {l : Array α} {i : Nat} {v d : α} (h : l[i]? = some v) : l.getD i d = v := by
 rw [Array.getD_eq_getD_getElem?, h]; rfl
theorem SOK.ev {N : Nat} {ds : List Deferred} {σ : Slots} {a : Act} (h : SOK N ds σ a) {x : Operand} {v : Value} (e : ev σ x = some v) : a.eval x = v := by
 cases x with
 | tmp t => exact getD_of (h.sl t v e)
 | const c => exact Option.some.inj e
 | global g => exact Option.some.inj e
 | func f => exact Option.some.inj e
theorem SOK.evs {N : Nat} {ds : List Deferred} {σ : Slots} {a : Act} (h : SOK N ds σ a) : ∀ {xs : List Operand} {vs : List Value}, evs σ xs = some vs → xs.map a.eval = vs
 | [], vs, e => by cases e; rfl
 | x :: r, vs, e => by
  unfold Go.Proofs.YtommeljlfkmpjaaDoor.Q.evs at e
  split at e
  ·rename_i v ws h1 h2
   cases e
   rw [List.map_cons, h.ev h1, h.evs h2]
  ·cases e
theorem SOK.put {N : Nat} {ds : List Deferred} {σ : Slots} {a : Act} (h : SOK N ds σ a) {d : Option Tmp} (hd : dstOK N d = true) (v : Value) : SOK N ds (putS d v σ) (a.put d v) := by
 cases d with
 | none => exact h
 | some d =>
  have hlt : d < N := by simpa [dstOK, Nat.blt_eq] using hd
  refine ⟨by simp [Act.put, h.sz], fun i u hu => ?_, h.df⟩
  simp only [Act.put]
  unfold putS slot at hu
  cases hb : Nat.beq d i with
  | true =>
   have e : d = i := Nat.eq_of_beq_eq_true hb
   simp only [hb, cond_true, Option.some.injEq] at hu
   subst e
   subst hu
   rw [Array.getElem?_setIfInBounds_self, if_pos (by rw [h.sz]; exact hlt)]
  | false =>
   have e : d ≠ i := fun e => by subst e; simp at hb
   simp only [hb, cond_false] at hu
   rw [Array.getElem?_setIfInBounds_ne e]
   exact h.sl i u hu
def subS : Slots → Slots → Prop
 | [], _ => True
 | p :: r, σ => slot p.1 σ = some p.2 ∧ subS r σ
theorem SOK.sub {N : Nat} {ds : List Deferred} {σ : Slots} {a : Act} (h : SOK N ds σ a) : ∀ {σ' : Slots}, subS σ' σ → SOK N ds σ' a
 | [], _ => ⟨h.sz, (fun i v e => by cases e), h.df⟩
 | p :: r, ⟨h1, h2⟩ => by
  have ih := h.sub h2
  refine ⟨h.sz, fun i v e => ?_, h.df⟩
  unfold slot at e
  cases hb : Nat.beq p.1 i with
  | true =>
   have e' : p.1 = i := Nat.eq_of_beq_eq_true hb
   simp only [hb, cond_true, Option.some.injEq] at e
   subst e'
   subst e
   exact h.sl _ _ h1
  | false =>
   simp only [hb, cond_false] at e
   exact ih.sl i v e
abbrev HP := Obj → Prop
abbrev Hp := List (Nat × Bool × HP)
def cel (cs : List Value) (t : TypeId) : HP := fun o => o = .cells cs.toArray t (0, 0)
structure Kx (X : Nat → Prop) (w0 w : World) : Prop where
 os : w.os = w0.os
 tape : w.tape = w0.tape
 output : w.output = w0.output
 size : w0.heap.size ≤ w.heap.size
 block : ∀ k, k < w0.heap.size → ¬ X k → w.heap[k]? = w0.heap[k]?
 dr : w0.drawn ≤ w.drawn
def XNone : Nat → Prop := fun _ => False
theorem Kx.refl (X : Nat → Prop) (w : World) : Kx X w w := ⟨rfl, rfl, rfl, Nat.le_refl _, fun _ _ _ => rfl, Nat.le_refl _⟩
theorem Kx.below {w0 w : World} (h : Kx XNone w0 w) : Below w0.heap.size w0 w := ⟨h.os, h.tape, h.output, h.size, fun k hk => h.block k hk (fun x => x)⟩
theorem Kx.of_below {X : Nat → Prop} {w0 w : World} (h : Below w0.heap.size w0 w) (hd : w0.drawn ≤ w.drawn) : Kx X w0 w := ⟨h.os, h.tape, h.output, h.size, fun k hk _ => h.block k hk, hd⟩
theorem Kx.cell {X : Nat → Prop} {w0 w : World} (h : Kx X w0 w) {p : Addr} {v : Value} (hc : w0.cell? p = some v) (hx : ¬ X p.block) : w.cell? p = some v := by
 have hb := World.block_lt_of_cell? w0 p hc
 unfold World.cell? at hc ⊢
 rw [h.block _ hb hx]
 exact hc
structure WOK (w0 : World) (X : Nat → Prop) (η : Hp) (w : World) : Prop where
 kx : Kx X w0 w
 bl : ∀ e ∈ η, ∃ o, w.heap[e.1]? = some o ∧ e.2.2 o
 nd : (η.map (·.1)).Nodup
 ow : ∀ e ∈ η, e.2.1 = true → w0.heap.size ≤ e.1 ∨ X e.1
theorem WOK.start (X : Nat → Prop) (w : World) : WOK w X [] w := ⟨Kx.refl X w, by simp, by simp, by simp⟩
theorem WOK.lt {w0 : World} {X : Nat → Prop} {η : Hp} {w : World} (h : WOK w0 X η w) {e : Nat × Bool × HP} (he : e ∈ η) : e.1 < w.heap.size := by
 obtain ⟨o, h1, _⟩ := h.bl e he
 exact (Array.getElem?_eq_some_iff.1 h1).1
theorem WOK.alloc {w0 : World} {X : Nat → Prop} {η : Hp} {w : World} (h : WOK w0 X η w) (o : Obj) (φ : HP) (hφ : φ o) : WOK w0 X ((w.heap.size, true, φ) :: η) (w.alloc o) := by
 refine ⟨⟨h.kx.os, h.kx.tape, h.kx.output, by simp; have := h.kx.size; omega, fun k hk hx => (Below.heap_alloc w o k (Nat.lt_of_lt_of_le hk h.kx.size)).trans (h.kx.block k hk hx), h.kx.dr⟩, ?_, ?_, ?_⟩
 ·intro e he
  rcases List.mem_cons.1 he with rfl | he
  ·exact ⟨o, heap_alloc_new w o, hφ⟩
  ·obtain ⟨o', h1, h2⟩ := h.bl e he
   exact ⟨o', (Below.heap_alloc w o _ (h.lt he)).trans h1, h2⟩
 ·simp only [List.map_cons, List.nodup_cons]
  refine ⟨fun hm => ?_, h.nd⟩
  obtain ⟨e, he, h1⟩ := List.mem_map.1 hm
  have := h.lt he
  omega
 ·intro e he hw
  rcases List.mem_cons.1 he with rfl | he
  ·exact .inl h.kx.size
  ·exact h.ow e he hw
inductive Upd (b : Nat) (φ' : HP) : Hp → Hp → Prop
 | head {φ : HP} {r : Hp} : Upd b φ' ((b, true, φ) :: r) ((b, true, φ') :: r)
 | tail {e : Nat × Bool × HP} {r r' : Hp} (h : Upd b φ' r r') : Upd b φ' (e :: r) (e :: r')
theorem Upd.keys {b : Nat} {φ' : HP} {η η' : Hp} (h : Upd b φ' η η') : η'.map (·.1) = η.map (·.1) := by
 induction h with
 | head => rfl
 | tail _ ih => simp only [List.map_cons, ih]
theorem Upd.has {b : Nat} {φ' : HP} {η η' : Hp} (h : Upd b φ' η η') : ∃ φ, (b, true, φ) ∈ η := by
 induction h with
 | head => exact ⟨_, List.mem_cons_self ..⟩
 | tail _ ih => obtain ⟨φ, h⟩ := ih; exact ⟨φ, List.mem_cons_of_mem _ h⟩
theorem Upd.mem {b : Nat} {φ' : HP} {η η' : Hp} (h : Upd b φ' η η') : ∀ e ∈ η', e = (b, true, φ') ∨ e ∈ η := by
 induction h with
 | head =>
  intro e he
  rcases List.mem_cons.1 he with rfl | he
  ·exact .inl rfl
  ·exact .inr (List.mem_cons_of_mem _ he)
 | tail _ ih =>
  intro e he
  rcases List.mem_cons.1 he with rfl | he
  ·exact .inr (List.mem_cons_self ..)
  ·rcases ih e he with h | h
   ·exact .inl h
   ·exact .inr (List.mem_cons_of_mem _ h)
theorem Upd.memNe {b : Nat} {φ' : HP} {η η' : Hp} (h : Upd b φ' η η') (hn : (η.map (·.1)).Nodup) : ∀ e ∈ η', e = (b, true, φ') ∨ (e ∈ η ∧ e.1 ≠ b) := by
 induction h with
 | head =>
  intro e he
  rcases List.mem_cons.1 he with rfl | he
  ·exact .inl rfl
  ·refine .inr ⟨List.mem_cons_of_mem _ he, fun q => ?_⟩
   simp only [List.map_cons, List.nodup_cons] at hn
   exact hn.1 (List.mem_map.2 ⟨e, he, q⟩)
 | tail h ih =>
  intro e he
  simp only [List.map_cons, List.nodup_cons] at hn
  rcases List.mem_cons.1 he with rfl | he
  ·refine .inr ⟨List.mem_cons_self .., fun q => ?_⟩
   obtain ⟨φ, hb⟩ := h.has
   exact hn.1 (List.mem_map.2 ⟨_, hb, q.symm⟩)
  ·rcases ih hn.2 e he with h | h
   ·exact .inl h
   ·exact .inr ⟨List.mem_cons_of_mem _ h.1, h.2⟩
structure OneB (b : Nat) (w w' : World) : Prop where
 os : w'.os = w.os
 tape : w'.tape = w.tape
 output : w'.output = w.output
 size : w'.heap.size = w.heap.size
 block : ∀ k, k ≠ b → w'.heap[k]? = w.heap[k]?
 dr : w'.drawn = w.drawn
theorem OneB.refl (b : Nat) (w : World) : OneB b w w := ⟨rfl, rfl, rfl, rfl, fun _ _ => rfl, rfl⟩
theorem OneB.trans {b : Nat} {w w1 w2 : World} (h : OneB b w w1) (k : OneB b w1 w2) : OneB b w w2 := ⟨k.os.trans h.os, k.tape.trans h.tape, k.output.trans h.output, k.size.trans h.size, fun i hi => (k.block i hi).trans (h.block i hi), k.dr.trans h.dr⟩
theorem OneB.setCell (w : World) (b i : Nat) (v : Value) : OneB b w (w.setCell ⟨b, i, none⟩ v) := ⟨rfl, rfl, rfl, by simp, fun k hk => Below.heap_setCell w _ v k hk, rfl⟩
theorem OneB.putObj (w : World) (b : Nat) (o : Obj) : OneB b w (w.putObj b o) := ⟨rfl, rfl, rfl, by simp, fun k hk => World.putObj_heap_other hk, rfl⟩
theorem WOK.upd {w0 : World} {X : Nat → Prop} {η η' : Hp} {w w' : World} {b : Nat} {φ' : HP} (h : WOK w0 X η w) (hU : Upd b φ' η η') (h1 : OneB b w w') {o : Obj} (ho : w'.heap[b]? = some o) (hφ : φ' o) : WOK w0 X η' w' := by
 obtain ⟨φ, hb⟩ := hU.has
 have hown := h.ow _ hb rfl
 refine ⟨⟨h1.os.trans h.kx.os, h1.tape.trans h.kx.tape, h1.output.trans h.kx.output, by rw [h1.size]; exact h.kx.size, fun k hk hx => ?_, by rw [h1.dr]; exact h.kx.dr⟩, ?_, by rw [hU.keys]; exact h.nd, ?_⟩
 ·refine (h1.block k (fun e => ?_)).trans (h.kx.block k hk hx)
  subst e
  rcases hown with h2 | h2
  ·exact absurd hk (Nat.not_lt.2 h2)
  ·exact hx h2
 ·intro e he
  rcases hU.memNe h.nd e he with rfl | ⟨he, hne⟩
  ·exact ⟨o, ho, hφ⟩
  ·obtain ⟨o', h2, h3⟩ := h.bl e he
   exact ⟨o', (h1.block _ hne).trans h2, h3⟩
 ·intro e he hw
  rcases hU.mem e he with rfl | he
  ·exact hown
  ·exact h.ow e he hw
theorem WOK.below {w0 : World} {X : Nat → Prop} {η : Hp} {w w' : World} (h : WOK w0 X η w) (hb : Below w.heap.size w w') (hd : w.drawn ≤ w'.drawn) : WOK w0 X η w' := by
 refine ⟨⟨hb.os.trans h.kx.os, hb.tape.trans h.kx.tape, hb.output.trans h.kx.output, Nat.le_trans h.kx.size hb.size, fun k hk hx => (hb.block k (Nat.lt_of_lt_of_le hk h.kx.size)).trans (h.kx.block k hk hx), Nat.le_trans h.kx.dr hd⟩, ?_, h.nd, h.ow⟩
 intro e he
 obtain ⟨o, h1, h2⟩ := h.bl e he
 exact ⟨o, (hb.block _ (h.lt he)).trans h1, h2⟩
theorem WOK.more {w0 : World} {X : Nat → Prop} {η : Hp} {w w' : World} (h : WOK w0 X η w) (hb : Below w.heap.size w w') (hd : w.drawn ≤ w'.drawn) {b : Nat} {o : Obj} {φ : HP} (hbb : w.heap.size ≤ b) (ho : w'.heap[b]? = some o) (hφ : φ o) : WOK w0 X ((b, true, φ) :: η) w' := by
 have h' := h.below hb hd
 refine ⟨h'.kx, ?_, ?_, ?_⟩
 ·intro e he
  rcases List.mem_cons.1 he with rfl | he
  ·exact ⟨o, ho, hφ⟩
  ·exact h'.bl e he
 ·simp only [List.map_cons, List.nodup_cons]
  refine ⟨fun hm => ?_, h.nd⟩
  obtain ⟨e, he, h1⟩ := List.mem_map.1 hm
  have := h.lt he
  omega
 ·intro e he hw
  rcases List.mem_cons.1 he with rfl | he
  ·exact .inl (Nat.le_trans h.kx.size hbb)
  ·exact h.ow e he hw
theorem WOK.drew {w0 : World} {X : Nat → Prop} {η : Hp} {w : World} (h : WOK w0 X η w) : WOK w0 X η w.drew := ⟨⟨h.kx.os, h.kx.tape, h.kx.output, h.kx.size, h.kx.block, Nat.le_succ_of_le h.kx.dr⟩, h.bl, h.nd, h.ow⟩
theorem WOK.sub {w0 : World} {X : Nat → Prop} {η η' : Hp} {w : World} (h : WOK w0 X η w) (hs : List.Sublist η' η) : WOK w0 X η' w :=
 ⟨h.kx, fun e he => h.bl e (hs.subset he), (hs.map _).nodup h.nd, fun e he => h.ow e (hs.subset he)⟩
theorem WOK.perm {w0 : World} {X : Nat → Prop} {η η' : Hp} {w : World} (h : WOK w0 X η w) (hp : List.Perm η η') : WOK w0 X η' w :=
 ⟨h.kx, fun e he => h.bl e (hp.mem_iff.2 he), (hp.map _).nodup_iff.1 h.nd, fun e he => h.ow e (hp.mem_iff.2 he)⟩
theorem WOK.obj {w0 : World} {X : Nat → Prop} {η : Hp} {w : World} (h : WOK w0 X η w) {b : Nat} {wr : Bool} {cs : List Value} {t : TypeId} (he : (b, wr, cel cs t) ∈ η) : w.heap[b]? = some (.cells cs.toArray t (0, 0)) := by
 obtain ⟨o, h1, h2⟩ := h.bl _ he
 rw [h1]
 exact congrArg some h2
theorem WOK.cell {w0 : World} {X : Nat → Prop} {η : Hp} {w : World} (h : WOK w0 X η w) {b : Nat} {wr : Bool} {cs : List Value} {t : TypeId} (he : (b, wr, cel cs t) ∈ η) (i : Nat) {v : Value} (hv : cs[i]? = some v) : w.cell? ⟨b, i, none⟩ = some v := by
 rw [cell_of_row w b i _ t _ (h.obj he)]
 simpa using hv
def look {α : Type} (i : Nat) : List (Nat × α) → Option α
 | [] => none
 | p :: r => bif Nat.beq p.1 i then some p.2 else look i r
theorem look_mem {α : Type} {i : Nat} {v : α} : ∀ {l : List (Nat × α)}, look i l = some v → (i, v) ∈ l
 | [], h => by cases h
 | p :: r, h => by
  unfold look at h
  cases hb : Nat.beq p.1 i with
  | true =>
   simp only [hb, cond_true, Option.some.injEq] at h
   have := Nat.eq_of_beq_eq_true hb
   subst this
   subst h
   exact List.mem_cons_self ..
  | false =>
   simp only [hb, cond_false] at h
   exact List.mem_cons_of_mem _ (look_mem h)
structure Tys (P : Program) where
 mixed : P.follows .mixedOrders = true
 tk : List (Nat × Nat)
 htk : ∀ p ∈ tk, (∀ w, (isAgg p.1).run P w = .ok (Nat.blt 0 p.2) w) ∧ (∀ w, (sizeOf p.1).run P w = .ok (bif Nat.beq p.2 0 then 1 else p.2) w)
 zs : List (Nat × Value)
 hzs : ∀ p ∈ zs, ∀ w, (zeroValue p.1).run P w = .ok p.2 w
 fo : List (Nat × List Nat)
 hfo : ∀ p ∈ fo, ∀ f off, p.2[f]? = some off → ∀ a w, (Instr.fieldAt p.1 (.pointer (some a)) f).run P w = .ok (.pointer (some (a.add off))) w
 el : List (Nat × Nat)
 hel : ∀ p ∈ el, P.underlying p.1 = some (.slice p.2)
 ik : List (Nat × IntKind)
 hik : ∀ p ∈ ik, P.underlying p.1 = some (.int p.2)
 mp : List (Nat × Nat × Nat)
 hmp : ∀ p ∈ mp, P.underlying p.1 = some (.map p.2.1 p.2.2)
section
variable {P : Program} {ro : Option Nat} {n N : Nat} {ds : List Deferred} {w0 : World} {X : Nat → Prop}
def XC (P : Program) (ro : Option Nat) (n N : Nat) (ds : List Deferred) (w0 : World) (X : Nat → Prop) (Q : Exit → Act → World → Prop) (σ : Slots) (η : Hp) (c : Code) : Prop :=
 ∀ a w, SOK N ds σ a → WOK w0 X η w → c.wpIn (wideR ro) n P Q a w
def XO (P : Program) (ro : Option Nat) (n N : Nat) (ds : List Deferred) (w0 : World) (X : Nat → Prop) (Q : Exit → Act → World → Prop) (ops : List Oper) (σ : Slots) (η : Hp) (rest : List Oper) : Prop :=
 ∀ a w, SOK N ds σ a → WOK w0 X η w → wpListIn (wideR ro) n P ops.toArray Q rest a w
def XQ (N : Nat) (ds : List Deferred) (w0 : World) (X : Nat → Prop) (Q : Exit → Act → World → Prop) (e : Exit) (σ : Slots) (η : Hp) : Prop :=
 ∀ a w, SOK N ds σ a → WOK w0 X η w → Q e a w
variable {Q : Exit → Act → World → Prop} {σ : Slots} {η : Hp}
theorem xc_seq {x y : Code} (h : XC P ro n N ds w0 X (Exit.then (y.wpIn (wideR ro) n P Q) Q) σ η x) : XC P ro n N ds w0 X Q σ η (.seq x y) := fun a w ha hw => wpIn_seq (h a w ha hw)
theorem xc_skip (h : XQ N ds w0 X Q .normal σ η) : XC P ro n N ds w0 X Q σ η .skip := fun a w ha hw => wpIn_skip (h a w ha hw)
theorem xc_exit {id : Nat} (h : XQ N ds w0 X Q (.exit id) σ η) : XC P ro n N ds w0 X Q σ η (.exit id) := fun a w ha hw => wpIn_exit (h a w ha hw)
theorem xc_ret (h : XQ N ds w0 X Q .ret σ η) : XC P ro n N ds w0 X Q σ η .ret := fun a w ha hw => wpIn_ret (h a w ha hw)
theorem xc_block {id : Nat} {c : Code} (h : XC P ro n N ds w0 X (Exit.inBlock id Q) σ η c) : XC P ro n N ds w0 X Q σ η (.block id c) := fun a w ha hw => wpIn_block (h a w ha hw)
theorem xc_cond {c : Operand} {x y : Code} {b : Bool} (hc : ev σ c = some (.bool b)) (ht : b = true → XC P ro n N ds w0 X Q σ η x) (hf : b = false → XC P ro n N ds w0 X Q σ η y) : XC P ro n N ds w0 X Q σ η (.cond c x y) :=
 fun a w ha hw => wpIn_cond_split (ha.ev hc) (fun h => ht h a w ha hw) (fun h => hf h a w ha hw)
theorem xc_condT {c : Operand} {x y : Code} (hc : ev σ c = some (.bool true)) (ht : XC P ro n N ds w0 X Q σ η x) : XC P ro n N ds w0 X Q σ η (.cond c x y) :=
 fun a w ha hw => wpIn_cond_true (ha.ev hc) (ht a w ha hw)
theorem xc_condF {c : Operand} {x y : Code} (hc : ev σ c = some (.bool false)) (hf : XC P ro n N ds w0 X Q σ η y) : XC P ro n N ds w0 X Q σ η (.cond c x y) :=
 fun a w ha hw => wpIn_cond_false (ha.ev hc) (hf a w ha hw)
theorem xcR {id : Nat} {l : List Oper} (h : XO P ro n N ds w0 X Q l σ η l) : XC P ro n N ds w0 X Q σ η (.region id l.toArray false) := fun a w ha hw => wpIn_region_lit (h a w ha hw)
theorem xc_loop {γ : Type} {c : Code} (C : γ → Prop) (S : γ → Slots) (H : γ → Hp) (μ : γ → Nat) (g0 : γ) (hC : C g0) (hs : subS (S g0) σ) (hh : List.Sublist (H g0) η)
  (round : ∀ g, C g → XC P ro n N ds w0 X (Exit.then (fun a w => ∃ k, k < μ g ∧ ∃ g', C g' ∧ μ g' = k ∧ SOK N ds (S g') a ∧ WOK w0 X (H g') w) Q) (S g) (H g) c) : XC P ro n N ds w0 X Q σ η (.loop c) := by
 intro a w ha hw
 refine wpIn_loop_ghost (fun k a w => ∃ g', C g' ∧ μ g' = k ∧ SOK N ds (S g') a ∧ WOK w0 X (H g') w) (μ g0) ⟨g0, hC, rfl, ha.sub hs, hw.sub hh⟩ ?_
 rintro k a w ⟨g, hg, rfl, h1, h2⟩
 exact round g hg a w h1 h2
theorem xq_again {γ : Type} (C : γ → Prop) (S : γ → Slots) (H : γ → Hp) (μ : γ → Nat) (m : Nat) (g' : γ) (hC : C g') (hm : μ g' < m) (hs : subS (S g') σ) (hh : List.Sublist (H g') η) :
  XQ N ds w0 X (Exit.then (fun a w => ∃ k, k < m ∧ ∃ g', C g' ∧ μ g' = k ∧ SOK N ds (S g') a ∧ WOK w0 X (H g') w) Q) .normal σ η :=
 fun a w ha hw => ⟨_, hm, g', hC, rfl, ha.sub hs, hw.sub hh⟩
theorem xqT {y : Code} (h : XC P ro n N ds w0 X Q σ η y) : XQ N ds w0 X (Exit.then (y.wpIn (wideR ro) n P Q) Q) .normal σ η := h
theorem xq_thenR {K : Act → World → Prop} (h : XQ N ds w0 X Q .ret σ η) : XQ N ds w0 X (Exit.then K Q) .ret σ η := h
theorem xq_thenE {K : Act → World → Prop} {id : Nat} (h : XQ N ds w0 X Q (.exit id) σ η) : XQ N ds w0 X (Exit.then K Q) (.exit id) σ η := h
theorem xqB {id : Nat} (h : XQ N ds w0 X Q .normal σ η) : XQ N ds w0 X (Exit.inBlock id Q) .normal σ η := h
theorem xq_blockR {id : Nat} (h : XQ N ds w0 X Q .ret σ η) : XQ N ds w0 X (Exit.inBlock id Q) .ret σ η := h
theorem xq_blockE {id id' : Nat} (hb : Nat.beq id' id = false) (h : XQ N ds w0 X Q (.exit id') σ η) : XQ N ds w0 X (Exit.inBlock id Q) (.exit id') σ η := fun a w ha hw => by
 have : id' ≠ id := fun e => by subst e; simp at hb
 simp only [Exit.inBlock, if_neg this]
 exact h a w ha hw
theorem xq_blockX {id : Nat} (h : XQ N ds w0 X Q .normal σ η) : XQ N ds w0 X (Exit.inBlock id Q) (.exit id) σ η := fun a w ha hw => by
 simp only [Exit.inBlock, ↓reduceIte]
 exact h a w ha hw
theorem xqS (h : XQ N ds w0 X Q .normal σ η) : XQ N ds w0 X (Exit.noGoto Q) .normal σ η := h
theorem xq_scopeR (h : XQ N ds w0 X Q .ret σ η) : XQ N ds w0 X (Exit.noGoto Q) .ret σ η := h
theorem xq_scopeE {id : Nat} (h : XQ N ds w0 X Q (.exit id) σ η) : XQ N ds w0 X (Exit.noGoto Q) (.exit id) σ η := h
end
theorem WOK.grown {w w' : World} (h : WOK w XNone [] w') : ∃ q os, w' = Go.Sort.grow (w.drewN q) os := by
 obtain ⟨h1, h2, h3, h4, h5, h6⟩ := h.kx
 refine ⟨w'.drawn - w.drawn, w'.heap.extract w.heap.size w'.heap.size, ?_⟩
 have e1 : w'.heap = w.heap ++ w'.heap.extract w.heap.size w'.heap.size := by
  refine Array.ext (by simp; omega) fun i hi1 hi2 => ?_
  by_cases hi : i < w.heap.size
  ·have := h5 i hi (fun x => x)
   rw [Array.getElem?_eq_getElem hi1, Array.getElem?_eq_getElem hi] at this
   rw [Array.getElem_append_left hi]
   exact Option.some.inj this
  ·rw [Array.getElem_append_right (by omega)]
   simp
   congr 1
   omega
 have e2 : w'.drawn = w.drawn + (w'.drawn - w.drawn) := by omega
 cases w'
 cases w
 simp only at h1 h2 h3 e1 e2
 subst h1 h2 h3
 simp only [Go.Sort.grow, World.drewN, World.mk.injEq, true_and, and_true]
 exact ⟨e1, e2⟩
end Go.Proofs.YtommeljlfkmpjaaDoor.Q
namespace Go.Proofs.YtommeljlfkmpjaaDoor.Q
open Go.RowKit Go.MapKept
attribute [local go_sem] Oper.semAt_some
def nthD : Nat → List Oper → Option Tmp
 | _, [] => none
 | 0, o :: _ => o.dst
 | j + 1, _ :: r => nthD j r
def eqB : Bool → Bool → Bool
 | true, w => w
 | false, true => false
 | false, false => true
def gS (ops : List Oper) (σ : Slots) : Option (Nat × Bool) → Option Bool
 | none => some true
 | some (j, want) => match nthD j ops with
  | some d => match slot d σ with
   | some (.bool b) => some (eqB b want)
   | some _ => some false
   | none => none
  | none => none
theorem nthD_eq : ∀ (j : Nat) (l : List Oper), nthD j l = (l[j]?).bind (·.dst)
 | _, [] => by simp [nthD]
 | 0, o :: _ => rfl
 | j + 1, _ :: r => by simp [nthD, nthD_eq j r]
def nth {α : Type} : Nat → List α → Option α
 | _, [] => none
 | 0, x :: _ => some x
 | j + 1, _ :: r => nth j r
theorem nth_eq {α : Type} : ∀ (j : Nat) (l : List α), nth j l = l[j]?
 | _, [] => by simp [nth]
 | 0, o :: _ => rfl
 | j + 1, _ :: r => by simp [nth, nth_eq j r]
def seg : Nat → Nat → List Value → Option (List Value)
 | 0, 0, _ => some []
 | 0, n + 1, v :: r => match seg 0 n r with
  | some vs => some (v :: vs)
  | none => none
 | o + 1, n, _ :: r => seg o n r
 | _, _, [] => none
theorem seg_get : ∀ (o n : Nat) (cs vs : List Value), seg o n cs = some vs → vs.length = n ∧ ∀ j v, vs[j]? = some v → cs[o + j]? = some v
 | 0, 0, cs, vs, h => by unfold seg at h; cases h; simp
 | 0, n + 1, [], vs, h => by simp [seg] at h
 | 0, n + 1, x :: r, vs, h => by
  unfold seg at h
  split at h
  ·rename_i ws hw
   cases h
   have ih := seg_get 0 n r ws hw
   refine ⟨by simp [ih.1], fun j v hj => ?_⟩
   cases j with
   | zero => simpa using hj
   | succ j => have := ih.2 j v (by simpa using hj); simpa using this
  ·cases h
 | o + 1, n, [], vs, h => by cases n <;> simp [seg] at h
 | o + 1, n, x :: r, vs, h => by
  have h' : seg o n r = some vs := by cases n <;> simpa [seg] using h
  have ih := seg_get o n r vs h'
  refine ⟨ih.1, fun j v hj => ?_⟩
  have := ih.2 j v hj
  rw [show o + 1 + j = (o + j) + 1 from by omega]
  simpa using this
def setSeg : Nat → List Value → List Value → Option (List Value)
 | 0, [], cs => some cs
 | 0, v :: vs, _ :: r => match setSeg 0 vs r with
  | some r' => some (v :: r')
  | none => none
 | o + 1, vs, x :: r => match setSeg o vs r with
  | some r' => some (x :: r')
  | none => none
 | _, _, [] => none
section
variable {P : Program} {ro : Option Nat} {n N : Nat} {ds : List Deferred} {w0 : World} {X : Nat → Prop} {Q : Exit → Act → World → Prop} {ops : List Oper} {σ : Slots} {η : Hp} {rest : List Oper}
variable {d : Option Tmp} {ty : TypeId} {pos : String} {aft : Array Edge} {g : Option (Nat × Bool)}
theorem wanted_of {a : Act} (ha : SOK N ds σ a) {o : Oper} {b : Bool} (h : gS ops σ o.guard = some b) : Region.wanted o (yielded ops.toArray a.tmps) = b := by
 unfold gS at h
 unfold Region.wanted
 split at h
 ·rename_i hg
  cases h
  rw [hg]
 ·rename_i j want hg
  rw [hg]
  split at h
  ·rename_i dd hd
   split at h
   ·rename_i bb hs
    cases h
    have h1 := ha.sl _ _ hs
    rw [nthD_eq] at hd
    have hd' : (ops.toArray[j]?).bind (·.dst) = some dd := by simpa using hd
    simp only [yielded, hd', Option.bind_some, h1]
    cases bb <;> cases want <;> rfl
   ·rename_i v hnb hs
    cases h
    have h1 := ha.sl _ _ hs
    rw [nthD_eq] at hd
    have hd' : (ops.toArray[j]?).bind (·.dst) = some dd := by simpa using hd
    simp only [yielded, hd', Option.bind_some, h1]
    cases v <;> first | rfl | exact absurd rfl (hnb _)
   ·cases h
  ·cases h
theorem xo_nil (h : XQ N ds w0 X Q .normal σ η) : XO P ro n N ds w0 X Q ops σ η [] := fun a w ha hw => h a w ha hw
theorem xo_base {o : Oper} (hd : isDefer o.op = false) (hg : gS ops σ o.guard = some true)
  (h : ∀ a w, SOK N ds σ a → WOK w0 X η w → ∃ nx w' v, (execOp a.eval o).run P w = .ok nx w' ∧ (nx = .value v ∨ (nx = .skip ∧ v = undef)) ∧ wpListIn (wideR ro) n P ops.toArray Q rest (a.put o.dst v) w') :
  XO P ro n N ds w0 X Q ops σ η (o :: rest) := by
 intro a w ha hw
 unfold wpListIn
 rw [if_pos (wanted_of ha hg)]
 refine ⟨fun _ _ => trivial, ?_⟩
 have hd' : ∀ c, o.op ≠ .defer c := fun c e => by rw [e] at hd; simp [isDefer] at hd
 rw [show (wideR ro).round = ro from rfl, Oper.semAt_eq ro _ _ hd']
 obtain ⟨nx, w', v, hr, hn, hk⟩ := h a w ha hw
 rw [hr]
 rcases hn with rfl | ⟨rfl, rfl⟩
 ·exact hk
 ·exact hk
theorem xo_val {o : Oper} (v : Value) (hd : isDefer o.op = false) (hg : gS ops σ o.guard = some true) (hN : dstOK N o.dst = true) (hrun : ∀ a w, SOK N ds σ a → WOK w0 X η w → (execOp a.eval o).run P w = .ok (.value v) w)
  (h : XO P ro n N ds w0 X Q ops (putS o.dst v σ) η rest) : XO P ro n N ds w0 X Q ops σ η (o :: rest) :=
 xo_base hd hg fun a w ha hw => ⟨_, w, v, hrun a w ha hw, .inl rfl, h _ _ (ha.put hN v) hw⟩
theorem xo_mv {x : Operand} {v : Value} (hg : gS ops σ g = some true) (hx : ev σ x = some v) (hN : dstOK N d = true) (h : XO P ro n N ds w0 X Q ops (putS d v σ) η rest) : XO P ro n N ds w0 X Q ops σ η (⟨d, .move x, ty, pos, aft, g⟩ :: rest) :=
 xo_val v rfl hg hN (fun a w ha hw => by simp only [execOp, ha.ev hx]; rfl) h
theorem xoM {x : Operand} {v : Value} (h : XO P ro n N ds w0 X Q ops (putS d v σ) η rest) (hg : gS ops σ g = some true := by exact rfl) (hx : ev σ x = some v := by exact rfl) (hN : dstOK N d = true := by exact rfl) : XO P ro n N ds w0 X Q ops σ η (⟨d, .move x, ty, pos, aft, g⟩ :: rest) := xo_mv hg hx hN h
theorem xo_asg {x : Operand} {v : Value} (hg : gS ops σ g = some true) (hx : ev σ x = some v) (hN : dstOK N d = true) (h : XO P ro n N ds w0 X Q ops (putS d v σ) η rest) : XO P ro n N ds w0 X Q ops σ η (⟨d, .assign x, ty, pos, aft, g⟩ :: rest) :=
 xo_val v rfl hg hN (fun a w ha hw => by simp only [execOp, ha.ev hx]; rfl) h
theorem xoA {x : Operand} {v : Value} (h : XO P ro n N ds w0 X Q ops (putS d v σ) η rest) (hg : gS ops σ g = some true := by exact rfl) (hx : ev σ x = some v := by exact rfl) (hN : dstOK N d = true := by exact rfl) : XO P ro n N ds w0 X Q ops σ η (⟨d, .assign x, ty, pos, aft, g⟩ :: rest) := xo_asg hg hx hN h
section
variable {t t' : TypeId} {x y : Operand} {k : IntKind} {a b : Int}
theorem xo_lss (hg : gS ops σ g = some true) (hx : ev σ x = some (.int k a)) (hy : ev σ y = some (.int k b)) (hN : dstOK N d = true) (h : XO P ro n N ds w0 X Q ops (putS d (.bool (decide (a < b))) σ) η rest) : XO P ro n N ds w0 X Q ops σ η (⟨d, .binOp .lss t x y t', ty, pos, aft, g⟩ :: rest) :=
 xo_val _ rfl hg hN (fun _ w ha hw => by simp [execOp, ha.ev hx, ha.ev hy, eqGuard_lss, binOp_lss]) h
theorem xo_geq (hg : gS ops σ g = some true) (hx : ev σ x = some (.int k a)) (hy : ev σ y = some (.int k b)) (hN : dstOK N d = true) (h : XO P ro n N ds w0 X Q ops (putS d (.bool (decide (b ≤ a))) σ) η rest) : XO P ro n N ds w0 X Q ops σ η (⟨d, .binOp .geq t x y t', ty, pos, aft, g⟩ :: rest) :=
 xo_val _ rfl hg hN (fun _ w ha hw => by simp [execOp, ha.ev hx, ha.ev hy, eqGuard_geq, binOp_geq]) h
theorem xo_neq (hg : gS ops σ g = some true) (hx : ev σ x = some (.int k a)) (hy : ev σ y = some (.int k b)) (hN : dstOK N d = true) (h : XO P ro n N ds w0 X Q ops (putS d (.bool (!decide (a = b))) σ) η rest) : XO P ro n N ds w0 X Q ops σ η (⟨d, .binOp .neq t x y t', ty, pos, aft, g⟩ :: rest) :=
 xo_val _ rfl hg hN (fun _ w ha hw => by simp [execOp, ha.ev hx, ha.ev hy, eqGuard_at_int, binOp_neq]; rfl) h
theorem xo_add (hg : gS ops σ g = some true) (hx : ev σ x = some (.int .i64 a)) (hy : ev σ y = some (.int .i64 b)) (hb : -9223372036854775808 ≤ a + b ∧ a + b ≤ 9223372036854775807) (hN : dstOK N d = true) (h : XO P ro n N ds w0 X Q ops (putS d (.int .i64 (a + b)) σ) η rest) : XO P ro n N ds w0 X Q ops σ η (⟨d, .binOp .add t x y t', ty, pos, aft, g⟩ :: rest) :=
 xo_val _ rfl hg hN (fun _ w ha hw => by simp [execOp, ha.ev hx, ha.ev hy, eqGuard_add, binOp_add, Op.intArith, IntWalk.i64_in _ hb]) h
theorem xo_sub (hg : gS ops σ g = some true) (hx : ev σ x = some (.int .i64 a)) (hy : ev σ y = some (.int .i64 b)) (hb : -9223372036854775808 ≤ a - b ∧ a - b ≤ 9223372036854775807) (hN : dstOK N d = true) (h : XO P ro n N ds w0 X Q ops (putS d (.int .i64 (a - b)) σ) η rest) : XO P ro n N ds w0 X Q ops σ η (⟨d, .binOp .sub t x y t', ty, pos, aft, g⟩ :: rest) :=
 xo_val _ rfl hg hN (fun _ w ha hw => by simp [execOp, ha.ev hx, ha.ev hy, eqGuard_sub, binOp_sub, Op.intArith, IntWalk.i64_in _ hb]) h
end
theorem xo_mkf {fn : Fn} {first cap : List Operand} {vs us : List Value} (hg : gS ops σ g = some true) (h1 : evs σ first = some vs) (h2 : evs σ cap = some us) (hN : dstOK N d = true) (h : XO P ro n N ds w0 X Q ops (putS d (.func fn vs.toArray us.toArray) σ) η rest) : XO P ro n N ds w0 X Q ops σ η (⟨d, .makeFunc fn first.toArray cap.toArray, ty, pos, aft, g⟩ :: rest) :=
 xo_val _ rfl hg hN (fun a w ha hw => by simp [execOp, Instr.makeFunc, ha.evs h1, ha.evs h2]) h
theorem xo_fa (T : Tys P) {s : TypeId} {x : Operand} {f : Nat} {offs : List Nat} {off : Nat} {b o : Nat} (hg : gS ops σ g = some true) (hs : look s T.fo = some offs) (ho : nth f offs = some off) (hx : ev σ x = some (.pointer (some ⟨b, o, none⟩))) (hN : dstOK N d = true)
  (h : XO P ro n N ds w0 X Q ops (putS d (.pointer (some ⟨b, o + off, none⟩)) σ) η rest) : XO P ro n N ds w0 X Q ops σ η (⟨d, .fieldAddr s x f, ty, pos, aft, g⟩ :: rest) :=
 xo_val _ rfl hg hN (fun a w ha hw => by
  have := T.hfo _ (look_mem hs) f off (by rw [← nth_eq]; exact ho) ⟨b, o, none⟩ w
  rw [Addr.add_lit] at this
  simp [execOp, ha.ev hx, this]) h
def szN (k : Nat) : Nat := bif Nat.beq k 0 then 1 else k
theorem xo_ia (T : Tys P) {t e : TypeId} {k0 : Nat} {x ix : Operand} {p : Addr} {len cap : Nat} {k : IntKind} {i : Int} (hg : gS ops σ g = some true) (he : look t T.el = some e) (hk : look e T.tk = some k0) (hx : ev σ x = some (.slice (some p) len cap)) (hi : ev σ ix = some (.int k i))
  (hb : 0 ≤ i ∧ i < (len : Int)) (hN : dstOK N d = true) (h : XO P ro n N ds w0 X Q ops (putS d (.pointer (some (p.add (i.toNat * szN k0)))) σ) η rest) : XO P ro n N ds w0 X Q ops σ η (⟨d, .indexAddr t x ix, ty, pos, aft, g⟩ :: rest) := by
 refine xo_val _ rfl hg hN (fun a w ha hw => ?_) h
 have h1 := T.hel _ (look_mem he)
 simp only at h1
 have h2 := (T.htk _ (look_mem hk)).2 w
 have hel : P.elem t = e := by simp [Program.elem, h1]
 have := run_indexAt_slice (P := P) w t p len cap k i (by rw [hel]; exact h1)
 rw [if_pos hb, hel, h2] at this
 simp only [Result.andThen_ok] at this
 simp [execOp, ha.ev hx, ha.ev hi, this, szN]
def RO (w0 : World) (X : Nat → Prop) (p : Addr) (cs : List Value) : Prop := ∀ j v, cs[j]? = some v → w0.cell? (p.add j) = some v ∧ ¬ X (p.add j).block
theorem xo_load0 (T : Tys P) {t : TypeId} {x : Operand} {b i : Nat} {wr : Bool} {cs : List Value} {te : TypeId} {v : Value} (hg : gS ops σ g = some true) (ht : look t T.tk = some 0) (hx : ev σ x = some (.pointer (some ⟨b, i, none⟩))) (hm : (b, wr, cel cs te) ∈ η) (hv : nth i cs = some v) (hN : dstOK N d = true)
  (h : XO P ro n N ds w0 X Q ops (putS d v σ) η rest) : XO P ro n N ds w0 X Q ops σ η (⟨d, .load t x, ty, pos, aft, g⟩ :: rest) :=
 xo_val v rfl hg hN (fun a w ha hw => by
  have h1 := (T.htk _ (look_mem ht)).1 w
  have h2 := hw.cell hm i (by rw [← nth_eq]; exact hv)
  simp [execOp, ha.ev hx, Instr.loadAt, Instr.sureAddr, loadVar, h1, h2]) h
theorem xo_loadN (T : Tys P) {t : TypeId} {x : Operand} {b i k : Nat} {wr : Bool} {cs vs : List Value} {te : TypeId} (hg : gS ops σ g = some true) (ht : look t T.tk = some (k + 1)) (hx : ev σ x = some (.pointer (some ⟨b, i, none⟩))) (hm : (b, wr, cel cs te) ∈ η) (hv : seg i (k + 1) cs = some vs) (hN : dstOK N d = true)
  (h : XO P ro n N ds w0 X Q ops (putS d (.agg vs.toArray) σ) η rest) : XO P ro n N ds w0 X Q ops σ η (⟨d, .load t x, ty, pos, aft, g⟩ :: rest) :=
 xo_val _ rfl hg hN (fun a w ha hw => by
  obtain ⟨h1, h3_⟩ := T.htk _ (look_mem ht)
  have h3 : ∀ w, (sizeOf t).run P w = .ok (k + 1) w := h3_
  have h1 : ∀ w, (isAgg t).run P w = .ok true w := fun w => (h1 w).trans (by simp [Nat.blt])
  clear h3_
  have hs := seg_get _ _ _ _ hv
  have h2 := run_loadCells_list (P := P) (w := w) ⟨b, i, none⟩ vs (fun j v hj => by rw [Addr.add_lit]; exact hw.cell hm (i + j) (hs.2 j v hj))
  rw [hs.1] at h2
  simp [execOp, ha.ev hx, Instr.loadAt, Instr.sureAddr, loadVar, h1, h3, h2]) h
theorem xo_loadR0 (T : Tys P) {t : TypeId} {x : Operand} {p : Addr} {v : Value} (hg : gS ops σ g = some true) (ht : look t T.tk = some 0) (hx : ev σ x = some (.pointer (some p))) (hc : RO w0 X p [v]) (hN : dstOK N d = true)
  (h : XO P ro n N ds w0 X Q ops (putS d v σ) η rest) : XO P ro n N ds w0 X Q ops σ η (⟨d, .load t x, ty, pos, aft, g⟩ :: rest) :=
 xo_val v rfl hg hN (fun a w ha hw => by
  have h1 := (T.htk _ (look_mem ht)).1 w
  have h0 := hc 0 v rfl
  rw [Addr.add_zero'] at h0
  have h2 := hw.kx.cell h0.1 h0.2
  simp [execOp, ha.ev hx, Instr.loadAt, Instr.sureAddr, loadVar, h1, h2]) h
theorem xo_loadRN (T : Tys P) {t : TypeId} {x : Operand} {p : Addr} {k : Nat} {vs : List Value} (hg : gS ops σ g = some true) (ht : look t T.tk = some (k + 1)) (hx : ev σ x = some (.pointer (some p))) (hc : RO w0 X p vs) (hl : vs.length = k + 1) (hN : dstOK N d = true)
  (h : XO P ro n N ds w0 X Q ops (putS d (.agg vs.toArray) σ) η rest) : XO P ro n N ds w0 X Q ops σ η (⟨d, .load t x, ty, pos, aft, g⟩ :: rest) :=
 xo_val _ rfl hg hN (fun a w ha hw => by
  obtain ⟨h1, h3_⟩ := T.htk _ (look_mem ht)
  have h3 : ∀ w, (sizeOf t).run P w = .ok (k + 1) w := h3_
  have h1 : ∀ w, (isAgg t).run P w = .ok true w := fun w => (h1 w).trans (by simp [Nat.blt])
  clear h3_
  have h2 := run_loadCells_list (P := P) (w := w) p vs (fun j v hj => hw.kx.cell (hc j v hj).1 (hc j v hj).2)
  rw [hl] at h2
  simp [execOp, ha.ev hx, Instr.loadAt, Instr.sureAddr, loadVar, h1, h3, h2]) h
theorem xo_alloc (T : Tys P) {t : TypeId} {z : Value} {cs : List Value} (hg : gS ops σ g = some true) (hz : look t T.zs = some z) (hc : z.cells.toList = cs) (hN : dstOK N d = true)
  (h : ∀ b, XO P ro n N ds w0 X Q ops (putS d (.pointer (some ⟨b, 0, none⟩)) σ) ((b, true, cel cs t) :: η) rest) : XO P ro n N ds w0 X Q ops σ η (⟨d, .alloc t, ty, pos, aft, g⟩ :: rest) :=
 xo_base rfl hg fun a w ha hw => by
  have h1 := T.hzs _ (look_mem hz) w
  refine ⟨_, w.alloc (.cells z.cells t), .pointer (some ⟨w.heap.size, 0, none⟩), ?_, .inl rfl, h _ _ _ (ha.put hN _) (hw.alloc _ _ ?_)⟩
  ·simp only [execOp, Instr.alloc, Sem.run_bind, h1, Result.andThen_ok]
   rfl
  ·rw [← hc]; simp [cel]
theorem xo_box {t : TypeId} {x : Operand} {v : Value} {cs : List Value} (hg : gS ops σ g = some true) (hx : ev σ x = some v) (hc : v.cells.toList = cs) (hN : dstOK N d = true)
  (h : ∀ b, XO P ro n N ds w0 X Q ops (putS d (.pointer (some ⟨b, 0, none⟩)) σ) ((b, true, cel cs t) :: η) rest) : XO P ro n N ds w0 X Q ops σ η (⟨d, .box t x, ty, pos, aft, g⟩ :: rest) :=
 xo_base rfl hg fun a w ha hw => by
  refine ⟨_, w.alloc (.cells v.cells t), .pointer (some ⟨w.heap.size, 0, none⟩), ?_, .inl rfl, h _ _ _ (ha.put hN _) (hw.alloc _ _ ?_)⟩
  ·simp only [execOp, Instr.box, Sem.run_bind, ha.ev hx, Result.andThen_ok]
   rfl
  ·rw [← hc]; simp [cel]
theorem run_storeCells (b : Nat) (te : TypeId) : ∀ (vs cs : List Value) (i j : Nat) (cs' : List Value) (w : World), (∀ v ∈ vs, v.oneCell' = true) → setSeg (i + j) vs cs = some cs' → w.heap[b]? = some (.cells cs.toArray te (0, 0)) →
  ∃ w', (storeCells ⟨b, i, none⟩ vs j).run P w = .ok () w' ∧ OneB b w w' ∧ w'.heap[b]? = some (.cells cs'.toArray te (0, 0)) := by
 have put1 : ∀ (k : Nat) (v : Value) (vs cs cs' : List Value), setSeg k (v :: vs) cs = some cs' → k < cs.length ∧ setSeg (k + 1) vs (cs.set k v) = some cs' := by
  intro k
  induction k with
  | zero =>
   intro v vs cs cs' h
   cases cs with
   | nil => simp [setSeg] at h
   | cons x r =>
    simp only [setSeg] at h
    split at h
    ·rename_i r' hr
     cases h
     refine ⟨by simp, ?_⟩
     simp only [List.set_cons_zero, setSeg, Nat.zero_add, hr]
    ·cases h
  | succ k ih =>
   intro v vs cs cs' h
   cases cs with
   | nil => simp [setSeg] at h
   | cons x r =>
    simp only [setSeg] at h
    split at h
    ·rename_i r' hr
     cases h
     have := ih v vs r r' hr
     refine ⟨by simp; exact this.1, ?_⟩
     simp only [List.set_cons_succ, setSeg, this.2]
    ·cases h
 have done : ∀ (k : Nat) (cs cs' : List Value), setSeg k [] cs = some cs' → cs' = cs := by
  intro k
  induction k with
  | zero => intro cs cs' h; simp [setSeg] at h; exact h.symm
  | succ k ih =>
   intro cs cs' h
   cases cs with
   | nil => simp [setSeg] at h
   | cons x r =>
    simp only [setSeg] at h
    split at h
    ·rename_i r' hr
     cases h
     rw [ih r r' hr]
    ·cases h
 intro vs
 induction vs with
 | nil =>
  intro cs i j cs' w _ hs hb
  have := done _ _ _ hs
  subst this
  exact ⟨w, rfl, OneB.refl b w, hb⟩
 | cons v vs ih =>
  intro cs i j cs' w h1 hs hb
  obtain ⟨hlt, hs'⟩ := put1 _ _ _ _ _ hs
  have hcell : w.cell? ⟨b, i + j, none⟩ = some (cs[i + j]'hlt) := by
   rw [cell_of_row w b (i + j) _ te _ hb]
   simp [List.getElem?_eq_getElem hlt]
  have hfz : w.frozen? ⟨b, i + j, none⟩ = false := frozen_of_row w b (i + j) _ te hb
  have hst : (store ⟨b, i + j, none⟩ v .plain).run P w = .ok () (w.setCell ⟨b, i + j, none⟩ v) := by
   rw [run_store P w _ v _ (h1 v (List.mem_cons_self ..)), hcell]
   simp [hfz]
  have hb' : (w.setCell ⟨b, i + j, none⟩ v).heap[b]? = some (.cells (cs.set (i + j) v).toArray te (0, 0)) := by
   rw [heap_setCell_same w b (i + j) _ te v hb]
   simp
  obtain ⟨w', hr, ho, hb2⟩ := ih (cs.set (i + j) v) i (j + 1) cs' _ (fun u hu => h1 u (List.mem_cons_of_mem _ hu)) (by rw [show i + (j + 1) = i + j + 1 from rfl]; exact hs') hb'
  refine ⟨w', ?_, (OneB.setCell w b (i + j) v).trans ho, hb2⟩
  simp only [storeCells, Addr.add_lit, Sem.run_bind, hst, Result.andThen_ok, hr]
theorem xo_store (T : Tys P) {t : TypeId} {p x : Operand} {b i k0 : Nat} {cs cs' vs : List Value} {te : TypeId} {v : Value} {η' : Hp} (hg : gS ops σ g = some true) (ht : look t T.tk = some k0) (hp : ev σ p = some (.pointer (some ⟨b, i, none⟩))) (hx : ev σ x = some v)
  (hm : (b, true, cel cs te) ∈ η) (hvs : v.cells.toList = vs) (hl : Nat.beq vs.length (szN k0) = true) (h1 : vs.all (·.oneCell') = true) (hs : setSeg i vs cs = some cs') (hU : Upd b (cel cs' te) η η') (hN : dstOK N d = true)
  (h : XO P ro n N ds w0 X Q ops (putS d undef σ) η' rest) : XO P ro n N ds w0 X Q ops σ η (⟨d, .store t p x, ty, pos, aft, g⟩ :: rest) :=
 xo_base rfl hg fun a w ha hw => by
  have h2 := (T.htk _ (look_mem ht)).2 w
  obtain ⟨w', hr, ho, hb⟩ := run_storeCells (P := P) b te vs cs i 0 cs' w (by simpa using h1) hs (hw.obj hm)
  refine ⟨_, w', undef, ?_, .inr ⟨rfl, rfl⟩, h _ _ (ha.put hN _) (hw.upd hU ho hb rfl)⟩
  have hlen : v.cells.size = szN k0 := by have := Nat.eq_of_beq_eq_true hl; rw [← this, ← hvs]; simp
  unfold szN at hlen
  simp only [execOp, ha.ev hp, ha.ev hx, Instr.storeAt, Instr.sureAddr, storeVar, Sem.run_bind, Sem.run_pure, Result.andThen_ok, h2, hlen, hvs, hr, ne_eq, not_true_eq_false, ↓reduceIte]
end
end Go.Proofs.YtommeljlfkmpjaaDoor.Q
namespace Go.Proofs.YtommeljlfkmpjaaDoor.Q
open Go.RowKit Go.MapKept
attribute [local go_sem] Oper.semAt_some
def hmap (l : List (Int × Value)) : HP := fun o => ∃ es c, o = .map es c ∧ Ents es c l
theorem imap_of {w : World} {b : Nat} {l : List (Int × Value)} {o : Obj} (h1 : w.heap[b]? = some o) (h2 : hmap l o) : IMap w b l := by
 obtain ⟨es, c, rfl, hE⟩ := h2
 exact ⟨es, c, h1, hE⟩
section
variable {P : Program} {ro : Option Nat} {n N : Nat} {ds : List Deferred} {w0 : World} {X : Nat → Prop} {Q : Exit → Act → World → Prop} {ops : List Oper} {σ : Slots} {η : Hp} {rest : List Oper}
variable {d : Option Tmp} {ty : TypeId} {pos : String} {aft : Array Edge} {g : Option (Nat × Bool)}
theorem WOK.imap {w : World} (h : WOK w0 X η w) {b : Nat} {wr : Bool} {l : List (Int × Value)} (he : (b, wr, hmap l) ∈ η) : IMap w b l := by
 obtain ⟨o, h1, h2⟩ := h.bl _ he
 exact imap_of h1 h2
theorem xo_call {fo : Operand} {xs : List Operand} {ats : Array TypeId} {f : FuncId} {vs fs cs : List Value} (hg : gS ops σ g = some true) (hf : ev σ fo = some (.func (.func f) fs.toArray cs.toArray)) (ha_ : evs σ xs = some vs)
  (eg : ∀ args w, (callFunc f args).run P w = .ok (.enter f args) w) (hN : dstOK N d = true)
  (hc : ∀ w, WOK w0 X η w → Calls P f (fs ++ vs ++ cs).toArray w fun e w' => ∃ v η', e = .returned v ∧ WOK w0 X η' w' ∧ XO P ro n N ds w0 X Q ops (putS d v σ) η' rest) :
  XO P ro n N ds w0 X Q ops σ η (⟨d, .call { callee := .value fo, args := xs.toArray, argTypes := ats }, ty, pos, aft, g⟩ :: rest) := by
 intro a w ha hw
 unfold wpListIn
 rw [if_pos (wanted_of ha (o := ⟨d, .call { callee := .value fo, args := xs.toArray, argTypes := ats }, ty, pos, aft, g⟩) hg)]
 refine ⟨fun _ _ => trivial, ?_⟩
 rw [show (wideR ro).round = ro from rfl, Oper.semAt_eq ro _ _ (fun c e => by cases e)]
 have hrun : (execOp a.eval ⟨d, .call { callee := .value fo, args := xs.toArray, argTypes := ats }, ty, pos, aft, g⟩).run P w = .ok (.enter f (fs ++ vs ++ cs).toArray) w := by
  simp [execOp, resolve, Deferred.ofValue, invoke, ha.ev hf, ha.evs ha_, eg]
 rw [hrun]
 refine ⟨(fun h => by cases h), callsIn_wideR ((hc w hw).mono ?_)⟩
 rintro e w' ⟨v, η', rfl, hw', hk⟩
 exact hk _ _ (ha.put hN v) hw'
theorem xo_callB {fo : Operand} {xs : List Operand} {ats : Array TypeId} {f : FuncId} {vs fs cs : List Value} {v : Value} (hg : gS ops σ g = some true) (hf : ev σ fo = some (.func (.func f) fs.toArray cs.toArray)) (ha_ : evs σ xs = some vs)
  (eg : ∀ args w, (callFunc f args).run P w = .ok (.enter f args) w) (hN : dstOK N d = true)
  (hc : ∀ w, WOK w0 X η w → Calls P f (fs ++ vs ++ cs).toArray w fun e w' => e = .returned v ∧ WOK w XNone [] w') (h : XO P ro n N ds w0 X Q ops (putS d v σ) η rest) :
  XO P ro n N ds w0 X Q ops σ η (⟨d, .call { callee := .value fo, args := xs.toArray, argTypes := ats }, ty, pos, aft, g⟩ :: rest) :=
 xo_call hg hf ha_ eg hN fun w hw => (hc w hw).mono fun e w' ⟨he, hb⟩ => ⟨v, η, he, hw.below hb.kx.below hb.kx.dr, h⟩
theorem xo_bi {b : Builtin} {xs : List Operand} {ats : Array TypeId} {vs : List Value} (v : Value) (hg : gS ops σ g = some true) (ha_ : evs σ xs = some vs) (hN : dstOK N d = true)
  (hrun : ∀ w, WOK w0 X η w → ∀ cs, (builtin b ats ty cs vs.toArray).run P w = .ok (.value v) w) (h : XO P ro n N ds w0 X Q ops (putS d v σ) η rest) :
  XO P ro n N ds w0 X Q ops σ η (⟨d, .call { callee := .builtin b, args := xs.toArray, argTypes := ats }, ty, pos, aft, g⟩ :: rest) :=
 xo_val v rfl hg hN (fun a w ha hw => by
  simp [execOp, resolve, invoke, ha.evs ha_]
  exact hrun w hw _) h
theorem xo_len (T : Tys P) {x : Operand} {t e : TypeId} {A : Option Addr} {len cap : Nat} (hg : gS ops σ g = some true) (hx : ev σ x = some (.slice A len cap)) (ht : look t T.el = some e) (hN : dstOK N d = true) (h : XO P ro n N ds w0 X Q ops (putS d (.int .i64 (len : Int)) σ) η rest) :
  XO P ro n N ds w0 X Q ops σ η (⟨d, .call { callee := .builtin .len, args := #[x], argTypes := #[t] }, ty, pos, aft, g⟩ :: rest) := by
 refine xo_bi (xs := [x]) (vs := [.slice A len cap]) _ hg (by simp [evs, hx]) hN (fun w hw cs => ?_) h
 have h1 := T.hel _ (look_mem ht)
 have := run_len_slice (P := P) w t ty A len cap (by simp only [Program.elem]; rw [show P.underlying t = _ from h1])
 simp [builtin, this, goInt]
end
def argS : Nat → List Value → Slots
 | _, [] => []
 | i, v :: r => (i, v) :: argS (i + 1) r
theorem slot_argS : ∀ (vs : List Value) (i j : Nat) (v : Value), slot j (argS i vs) = some v → i ≤ j ∧ vs[j - i]? = some v
 | [], i, j, v, h => by cases h
 | u :: r, i, j, v, h => by
  unfold argS slot at h
  cases hq : Nat.beq i j with
  | true =>
   have e := Nat.eq_of_beq_eq_true hq
   simp only [hq, cond_true, Option.some.injEq] at h
   subst e
   subst h
   simp
  | false =>
   simp only [hq, cond_false] at h
   obtain ⟨h1, h2⟩ := slot_argS r (i + 1) j v h
   have h3 : i ≤ j := by omega
   refine ⟨h3, ?_⟩
   rw [show j - i = (j - (i + 1)) + 1 from by omega]
   simpa using h2
theorem SOK.args (vs : List Value) (N : Nat) (h : vs.length ≤ N) : SOK N [] (argS 0 vs) { tmps := vs.toArray ++ Array.replicate (N - vs.toArray.size) undef, defers := [] } := by
 refine ⟨by simp; omega, fun i v hv => ?_, rfl⟩
 obtain ⟨_, h2⟩ := slot_argS vs 0 i v hv
 simp only [Nat.sub_zero] at h2
 have hlt : i < vs.length := (List.getElem?_eq_some_iff.1 h2).1
 rw [Array.getElem?_append_left (by simpa using hlt)]
 simpa using h2
theorem x_calls {P : Program} {f : FuncId} {fn : Func} {c : Code} {vs : List Value} {w : World} {R : Ending → World → Prop} {X : Nat → Prop} (hf : P.funcs[f]? = some fn) (hb : fn.body = some c) {N : Nat} (hn : fn.ntmps = N) (hl : Nat.ble vs.length N = true)
  (h : XC P none 0 N [] w X (bodyPost P fn R) (argS 0 vs) [] c) : Calls P f vs.toArray w R := by
 subst hn
 exact (callsIn_wide (n := 0)).1 (callsIn_of_wp hf hb trivial (h _ w (SOK.args vs _ (Nat.le_of_ble_eq_true hl)) (WOK.start X w)) rfl)
section
variable {P : Program} {N : Nat} {w0 : World} {X : Nat → Prop} {fn : Func} {R : Ending → World → Prop} {σ : Slots} {η : Hp}
theorem xq_ret1 {t : Tmp} {v : Value} (hf : fn.results = #[.tmp t]) (hv : slot t σ = some v) (h : ∀ w, WOK w0 X η w → R (.returned v) w) : XQ N [] w0 X (bodyPost P fn R) .ret σ η :=
 fun a w ha hw => ⟨ha.df, v, by rw [results_tmp hf, getD_of (ha.sl _ _ hv)], h w hw⟩
end
end Go.Proofs.YtommeljlfkmpjaaDoor.Q
namespace Go.Proofs.YtommeljlfkmpjaaDoor.Q
end Go.Proofs.YtommeljlfkmpjaaDoor.Q
namespace Go.Proofs.YtommeljlfkmpjaaDoor.Q
open Go.RowKit Go.MapKept
attribute [local go_sem] Oper.semAt_some
theorem Upd.app {b : Nat} {φ' : HP} {r r' : Hp} (h : Upd b φ' r r') : ∀ l : Hp, Upd b φ' (l ++ r) (l ++ r')
 | [] => h
 | e :: l => .tail (h.app l)
def evp (σ : Slots) : List (Nat × Operand) → Option (List (Nat × Value))
 | [] => some []
 | p :: r => match ev σ p.2, evp σ r with
  | some v, some vs => some ((p.1, v) :: vs)
  | _, _ => none
theorem SOK.evp {N : Nat} {ds : List Deferred} {σ : Slots} {a : Act} (h : SOK N ds σ a) : ∀ {xs : List (Nat × Operand)} {vs : List (Nat × Value)}, evp σ xs = some vs → xs.map (fun p => (p.1, a.eval p.2)) = vs
 | [], vs, e => by cases e; rfl
 | x :: r, vs, e => by
  unfold Go.Proofs.YtommeljlfkmpjaaDoor.Q.evp at e
  split at e
  ·rename_i v ws h1 h2
   cases e
   rw [List.map_cons, h.ev h1, h.evp h2]
  ·cases e
end Go.Proofs.YtommeljlfkmpjaaDoor.Q
namespace Go.Proofs.YtommeljlfkmpjaaDoor.Q
open Go.RowKit
end Go.Proofs.YtommeljlfkmpjaaDoor.Q
namespace Go.Proofs.YtommeljlfkmpjaaDoor.Q
open Go.RowKit
def depOf (o : Oper) : List Nat := (o.after.toList.filter (Region.binds .any)).map (·.on)
def dstv (ops : List Oper) (vs : List Value) (j : Nat) : Slots :=
 match nthD j ops, nth j vs with
 | some d, some v => [(d, v)]
 | _, _ => []
def flatS (ops : List Oper) (vs : List Value) : List Nat → Slots → Slots
 | [], σ => σ
 | j :: L, σ => dstv ops vs j ++ flatS ops vs L σ
theorem slot_app (k : Nat) : ∀ A B : Slots, slot k (A ++ B) = match slot k A with | some u => some u | none => slot k B
 | [], B => rfl
 | p :: A, B => by
  simp only [List.cons_append, slot]
  cases Nat.beq p.1 k with
  | true => rfl
  | false => exact slot_app k A B
theorem slot_dstv {ops : List Oper} {vs : List Value} {j k : Nat} {u : Value} : slot k (dstv ops vs j) = some u ↔ nthD j ops = some k ∧ nth j vs = some u := by
 unfold dstv
 cases h1 : nthD j ops with
 | none => simp [slot]
 | some d =>
  cases h2 : nth j vs with
  | none => simp [slot]
  | some v =>
   simp only [slot]
   cases hb : Nat.beq d k with
   | true =>
    have := Nat.eq_of_beq_eq_true hb
    subst this
    simp
   | false =>
    have : d ≠ k := fun e => by subst e; simp at hb
    simp [this]
theorem flat_a {ops : List Oper} {vs : List Value} {k : Nat} {u : Value} {σ : Slots} : ∀ L : List Nat, slot k (flatS ops vs L σ) = some u → (∃ j ∈ L, nthD j ops = some k ∧ nth j vs = some u) ∨ slot k σ = some u
 | [], h => .inr h
 | j :: L, h => by
  unfold flatS at h
  rw [slot_app] at h
  cases hd : slot k (dstv ops vs j) with
  | some v =>
   rw [hd] at h
   cases h
   exact .inl ⟨j, List.mem_cons_self .., slot_dstv.1 hd⟩
  | none =>
   rw [hd] at h
   rcases flat_a L h with ⟨i, hi, h'⟩ | h'
   ·exact .inl ⟨i, List.mem_cons_of_mem _ hi, h'⟩
   ·exact .inr h'
theorem flat_b {ops : List Oper} {vs : List Value} {σ : Slots} (hdis : ∀ i j k, nthD i ops = some k → nthD j ops = some k → i = j) {k j : Nat} {u : Value} (h1 : nthD j ops = some k) (h2 : nth j vs = some u) : ∀ L : List Nat, j ∈ L → slot k (flatS ops vs L σ) = some u
 | [], h => by cases h
 | i :: L, h => by
  unfold flatS
  rw [slot_app]
  cases hd : slot k (dstv ops vs i) with
  | some v =>
   obtain ⟨h3, h4⟩ := slot_dstv.1 hd
   have := hdis i j k h3 h1
   subst this
   rw [h2] at h4
   exact h4.symm ▸ rfl
  | none =>
   rcases List.mem_cons.1 h with rfl | h
   ·rw [slot_dstv.2 ⟨h1, h2⟩] at hd
    cases hd
   ·exact flat_b hdis h1 h2 L h
theorem flat_c {ops : List Oper} {vs : List Value} {σ : Slots} {k : Nat} (hk : ∀ j, nthD j ops ≠ some k) : ∀ L : List Nat, slot k (flatS ops vs L σ) = slot k σ
 | [] => rfl
 | i :: L => by
  unfold flatS
  rw [slot_app]
  cases hd : slot k (dstv ops vs i) with
  | some v => exact absurd (slot_dstv.1 hd).1 (hk i)
  | none => exact flat_c hk L
theorem SOK.le {N : Nat} {ds : List Deferred} {σ σ' : Slots} {a : Act} (h : SOK N ds σ a) (hs : ∀ k u, slot k σ' = some u → slot k σ = some u) : SOK N ds σ' a := ⟨h.sz, fun i v e => h.sl i v (hs i v e), h.df⟩
def OnePost (N : Nat) (ds : List Deferred) (w0 : World) (X : Nat → Prop) (η : Hp) (σ : Slots) : Exit → Act → World → Prop
 | .normal, a, w => SOK N ds σ a ∧ WOK w0 X η w
 | _, _, _ => False
theorem wpIn_swap {F : Fence} {n : Nat} {P : Program} {o : Oper} {a : Act} {w : World} {K : Act → World → Prop} {N : Nat} {ds : List Deferred} {w0 : World} {X : Nat → Prop} {η : Hp} {σ : Slots} {Q : Exit → Act → World → Prop}
  (h : o.wpIn F n P a w K (OnePost N ds w0 X η σ)) : o.wpIn F n P a w K Q := by
 unfold Oper.wpIn at *
 refine ⟨h.1, ?_⟩
 have hh := h.2
 generalize (o.semAt F.round a.eval).run P w = r at *
 cases r with
 | ok x w' =>
  cases x <;> simp only [Oper.uponIn] at hh ⊢ <;>
   first
    | exact hh
    | exact ⟨hh.1, CallsIn.mono hh.2 (fun e w'' he => by
      cases e with
      | returned v => exact he
      | panicked c => exact he.elim
      | outgrown => obtain ⟨_, _, h3⟩ := he; exact h3.elim)⟩
    | exact ⟨hh.1, RoundIn.mono hh.2 (fun e w'' he => by
      cases e with
      | returned v => exact he
      | panicked c => exact he.elim
      | outgrown => obtain ⟨_, _, h3⟩ := he; exact h3.elim)⟩
 | halt x w' => cases x <;> simp only [Oper.uponIn] at hh ⊢ <;> first | exact hh | exact hh.elim
section
variable {P : Program} {ro : Option Nat} {n N : Nat} {ds : List Deferred} {w0 : World} {X : Nat → Prop} {Q : Exit → Act → World → Prop} {σ : Slots} {η : Hp}
def DrawOps (P : Program) (ro : Option Nat) (n N : Nat) (ds : List Deferred) (w0 : World) (X : Nat → Prop) (ops : List Oper) (vs : List Value) (σ : Slots) (η : Hp) : List Oper → List Value → Prop
 | o :: r, v :: vr => (∀ τ, XO P ro n N ds w0 X (OnePost N ds w0 X η (putS o.dst v (flatS ops vs (depOf o) σ ++ τ))) ops (flatS ops vs (depOf o) σ ++ τ) η [o]) ∧ DrawOps P ro n N ds w0 X ops vs σ η r vr
 | _, _ => True
theorem drawOps_get {ops : List Oper} {vs : List Value} : ∀ (l : List Oper) (vl : List Value) (i : Nat) (o : Oper) (v : Value), DrawOps P ro n N ds w0 X ops vs σ η l vl → l[i]? = some o → nth i vl = some v →
  ∀ τ, XO P ro n N ds w0 X (OnePost N ds w0 X η (putS o.dst v (flatS ops vs (depOf o) σ ++ τ))) ops (flatS ops vs (depOf o) σ ++ τ) η [o]
 | [], _, i, o, v, _, h, _ => by simp at h
 | x :: r, [], i, o, v, _, _, h => by simp [nth] at h
 | x :: r, y :: vr, 0, o, v, h, h1, h2 => by
  simp [nth] at h1 h2
  subst h1 h2
  exact h.1
 | x :: r, y :: vr, i + 1, o, v, h, h1, h2 => drawOps_get r vr i o v h.2 (by simpa using h1) (by simpa [nth] using h2)
def dstsOf_ (ops : List Oper) : List Tmp := ops.filterMap (·.dst)
def freshB (σ : Slots) : List Tmp → Bool
 | [] => true
 | d :: r => (match slot d σ with | none => true | some _ => false) && freshB σ r
def distB : List Tmp → Bool
 | [] => true
 | d :: r => !(r.any fun x => Nat.beq d x) && distB r
def depsB : Nat → List Oper → Bool
 | _, [] => true
 | i, o :: r => (depOf o).all (fun j => Nat.blt j i) && depsB (i + 1) r
theorem depsB_get : ∀ (l : List Oper) (i k : Nat) (o : Oper), depsB i l = true → l[k]? = some o → ∀ j ∈ depOf o, j < i + k
 | [], i, k, o, _, h => by simp at h
 | x :: r, i, 0, o, h, h1 => by
  simp at h1
  subst h1
  simp only [depsB, Bool.and_eq_true, List.all_eq_true, Nat.blt_eq] at h
  intro j hj
  simpa using h.1 j hj
 | x :: r, i, k + 1, o, h, h1 => by
  simp only [depsB, Bool.and_eq_true] at h
  intro j hj
  have := depsB_get r (i + 1) k o h.2 (by simpa using h1) j hj
  omega
theorem distB_get : ∀ (l : List Oper) (i j k : Nat), distB (dstsOf_ l) = true → nthD i l = some k → nthD j l = some k → i = j
 | [], i, j, k, _, h, _ => by simp [nthD] at h
 | x :: r, 0, 0, k, _, _, _ => rfl
 | x :: r, 0, j + 1, k, hd, h1, h2 => by
  simp only [nthD] at h1 h2
  simp only [dstsOf_, List.filterMap_cons, h1, distB, Bool.and_eq_true, Bool.not_eq_true', List.any_eq_false] at hd
  rw [nthD_eq] at h2
  obtain ⟨o, ho, ho2⟩ := Option.bind_eq_some_iff.1 h2
  have := hd.1 k (List.mem_filterMap.2 ⟨o, List.mem_of_getElem? ho, ho2⟩)
  simp at this
 | x :: r, i + 1, 0, k, hd, h1, h2 => by
  simp only [nthD] at h1 h2
  simp only [dstsOf_, List.filterMap_cons, h2, distB, Bool.and_eq_true, Bool.not_eq_true', List.any_eq_false] at hd
  rw [nthD_eq] at h1
  obtain ⟨o, ho, ho2⟩ := Option.bind_eq_some_iff.1 h1
  have := hd.1 k (List.mem_filterMap.2 ⟨o, List.mem_of_getElem? ho, ho2⟩)
  simp at this
 | x :: r, i + 1, j + 1, k, hd, h1, h2 => by
  simp only [nthD] at h1 h2
  have hd' : distB (dstsOf_ r) = true := by
   simp only [dstsOf_, List.filterMap_cons] at hd ⊢
   cases hx : x.dst with
   | none => rw [hx] at hd; exact hd
   | some d => rw [hx] at hd; simp only [distB, Bool.and_eq_true] at hd; exact hd.2
  rw [distB_get r i j k hd' h1 h2]
theorem freshB_get : ∀ (l : List Tmp) (d : Tmp), freshB σ l = true → d ∈ l → slot d σ = none
 | [], d, _, h => by cases h
 | x :: r, d, h, hm => by
  simp only [freshB, Bool.and_eq_true] at h
  rcases List.mem_cons.1 hm with rfl | hm
  ·have := h.1
   split at this
   ·assumption
   ·cases this
  ·exact freshB_get r d h.2 hm
theorem filter_less {l : List Nat} {p q : Nat → Bool} (h : ∀ j ∈ l, q j = true → p j = true) {i : Nat} (hi : i ∈ l) (hp : p i = true) (hq : q i = false) : (l.filter q).length < (l.filter p).length := by
 induction l with
 | nil => cases hi
 | cons x r ih =>
  have hle : ∀ l : List Nat, (∀ j ∈ l, q j = true → p j = true) → (l.filter q).length ≤ (l.filter p).length := by
   intro l
   induction l with
   | nil => intro _; simp
   | cons y r ih =>
    intro h
    have := ih (fun j hj => h j (List.mem_cons_of_mem _ hj))
    have h1 := h y (List.mem_cons_self ..)
    cases hqy : q y <;> cases hpy : p y <;> simp_all
    omega
  rcases List.mem_cons.1 hi with rfl | hi
  ·have := hle r (fun j hj => h j (List.mem_cons_of_mem _ hj))
   simp only [List.filter_cons, hp, hq, ↓reduceIte, Bool.false_eq_true, List.length_cons]
   omega
  ·have := ih (fun j hj => h j (List.mem_cons_of_mem _ hj)) hi
   have h1 := h x (List.mem_cons_self ..)
   cases hqy : q x <;> cases hpy : p x <;> simp_all
   omega
theorem xc_draw {id : Nat} {ops : List Oper} (vs : List Value) (hmix : P.follows .mixedOrders = true) (hlen : Nat.beq vs.length ops.length = true) (hbind : true = true) (hdeps : depsB 0 ops = true) (hdist : distB (dstsOf_ ops) = true) (hfresh : freshB σ (dstsOf_ ops) = true)
  (hop : DrawOps P ro n N ds w0 X ops vs σ η ops vs) (hQ : XQ N ds w0 X Q .normal (flatS ops vs (List.range ops.length) σ) η) : XC P ro n N ds w0 X Q σ η (.region id ops.toArray true) := by
 have hl := Nat.eq_of_beq_eq_true hlen
 have hdis := fun i j k => distB_get ops i j k hdist
 have hfr : ∀ j d, nthD j ops = some d → slot d σ = none := fun j d h => by
  rw [nthD_eq] at h
  obtain ⟨o, ho, ho2⟩ := Option.bind_eq_some_iff.1 h
  exact freshB_get _ d hfresh (List.mem_filterMap.2 ⟨o, List.mem_of_getElem? ho, ho2⟩)
 have hnot : ∀ k u, slot k σ = some u → ∀ j, nthD j ops ≠ some k := fun k u h j e => by rw [hfr j k e] at h; cases h
 -- those of some are those of more
 have hmore : ∀ L M : List Nat, (∀ j ∈ L, j ∈ M) → ∀ k u, slot k (flatS ops vs L σ) = some u → slot k (flatS ops vs M σ) = some u := by
  intro L M h k u hk
  rcases flat_a L hk with ⟨j, hj, h1, h2⟩ | h1
  ·exact flat_b hdis h1 h2 M (h j hj)
  ·rw [flat_c (hnot k u h1) M]; exact h1
 intro a w ha hw
 refine wpIn_region_any hmix ?_
 have key : ∀ (fuel : Nat) (L : List Nat) (listed : Array Bool) (a : Act) (w : World), listed.size = ops.length → (∀ j, listed.getD j false = true ↔ j ∈ L) → (∀ j ∈ L, j < ops.length) → ((List.range ops.length).filter fun j => !listed.getD j false).length ≤ fuel → SOK N ds (flatS ops vs L σ) a → WOK w0 X η w →
   wpAnyIn (wideR ro) n P .any ops.toArray Q fuel listed a w := by
  intro fuel
  induction fuel with
  | zero =>
   intro L listed a w hsz hL hLb hcnt ha hw
   have hall : ∀ j, j < ops.length → j ∈ L := by
    intro j hj
    have h0 := List.length_eq_zero_iff.1 (Nat.le_zero.1 hcnt)
    rw [List.filter_eq_nil_iff] at h0
    have := h0 j (List.mem_range.2 hj)
    exact (hL j).1 (by simpa using this)
   refine ⟨?_, hQ a w (ha.le (hmore _ _ (fun j hj => hall j (List.mem_range.1 hj)))) hw⟩
   apply List.eq_nil_iff_forall_not_mem.2
   intro j hj
   obtain ⟨h1, o, h2, _⟩ := mem_ready.1 hj
   have hlt : j < ops.length := by have := (Array.getElem?_eq_some_iff.1 h2).1; simpa using this
   have h3 := (hL j).2 (hall j hlt)
   rw [Array.getD_eq_getD_getElem?] at h1 h3
   rw [Array.getElem?_eq_getElem (by rw [hsz]; exact hlt)] at h1 h3
   simp at h1 h3
   rw [h1] at h3
   cases h3
  | succ fuel ih =>
   intro L listed a w hsz hL hLb hcnt ha hw
   refine ⟨fun hnil => ?_, fun i hi => ?_⟩
   ·-- nothing is ready: all are listed
    have hall : ∀ k j, j ≤ k → j < ops.length → j ∈ L := by
     intro k
     induction k with
     | zero =>
      intro j hj hlt
      by_cases hm : j ∈ L
      ·exact hm
      ·exfalso
       have : j ∈ Region.ready .any ops.toArray listed := by
        refine mem_ready.2 ⟨?_, ops[j], by simp [List.getElem?_eq_getElem hlt], ?_⟩
        ·have h3 : listed.getD j false ≠ true := fun q => hm ((hL j).1 q)
         rw [Array.getD_eq_getD_getElem?, Array.getElem?_eq_getElem (by rw [hsz]; exact hlt)] at h3 ⊢
         simpa using h3
        ·intro e he hbd
         have h4 := depsB_get ops 0 j ops[j] hdeps (List.getElem?_eq_getElem hlt) e.on (List.mem_map.2 ⟨e, List.mem_filter.2 ⟨by simpa using he, hbd⟩, rfl⟩)
         omega
       rw [hnil] at this
       cases this
     | succ k ihk =>
      intro j hj hlt
      by_cases hjk : j ≤ k
      ·exact ihk j hjk hlt
      by_cases hm : j ∈ L
      ·exact hm
      ·exfalso
       have : j ∈ Region.ready .any ops.toArray listed := by
        refine mem_ready.2 ⟨?_, ops[j], by simp [List.getElem?_eq_getElem hlt], ?_⟩
        ·have h3 : listed.getD j false ≠ true := fun q => hm ((hL j).1 q)
         rw [Array.getD_eq_getD_getElem?, Array.getElem?_eq_getElem (by rw [hsz]; exact hlt)] at h3 ⊢
         simpa using h3
        ·intro e he hbd
         have h4 := depsB_get ops 0 j ops[j] hdeps (List.getElem?_eq_getElem hlt) e.on (List.mem_map.2 ⟨e, List.mem_filter.2 ⟨by simpa using he, hbd⟩, rfl⟩)
         exact (hL e.on).2 (ihk e.on (by omega) (by omega))
       rw [hnil] at this
       cases this
    exact hQ a w (ha.le (hmore _ _ (fun j hj => hall j j (Nat.le_refl _) (List.mem_range.1 hj)))) hw
   ·obtain ⟨h1, o, h2, h3⟩ := mem_ready.1 hi
    have hlt : i < ops.length := by have := (Array.getElem?_eq_some_iff.1 h2).1; simpa using this
    have ho : ops[i]? = some o := by simpa using h2
    have hio : i < vs.length := by rw [hl]; exact hlt
    have hv : nth i vs = some vs[i] := by rw [nth_eq, List.getElem?_eq_getElem hio]
    generalize vs[i] = v at hv
    have hnl : ¬ i ∈ L := fun q => by
     have h4 := (hL i).2 q
     rw [Array.getD_eq_getD_getElem?, Array.getElem?_eq_getElem (by rw [hsz]; exact hlt)] at h1 h4
     simp at h1 h4
     rw [h1] at h4
     cases h4
    have hdL : ∀ j ∈ depOf o, j ∈ L := by
     intro j hj
     obtain ⟨e, he, rfl⟩ := List.mem_map.1 hj
     obtain ⟨he, hb⟩ := List.mem_filter.1 he
     exact (hL e.on).1 (h3 e (by simpa using he) hb)
    have hcons := hmore (depOf o) L hdL
    have hs : SOK N ds (flatS ops vs (depOf o) σ ++ flatS ops vs L σ) a := ha.le fun k u hk => by
     rw [slot_app] at hk
     cases hd : slot k (flatS ops vs (depOf o) σ) with
     | some x => rw [hd] at hk; cases hk; exact hcons k _ hd
     | none => rw [hd] at hk; exact hk
    have hrun := drawOps_get ops vs i o v hop ho hv (flatS ops vs L σ) a w hs hw
    have hnext : ∀ a' w', OnePost N ds w0 X η (putS o.dst v (flatS ops vs (depOf o) σ ++ flatS ops vs L σ)) .normal a' w' → wpAnyIn (wideR ro) n P .any ops.toArray Q fuel (listed.setIfInBounds i true) a' w' := by
     rintro a' w' ⟨ha', hw'⟩
     refine ih (i :: L) _ a' w' (by simp [hsz]) ?_ ?_ ?_ (ha'.le ?_) hw'
     ·intro j
      rw [Array.getD_eq_getD_getElem?]
      by_cases e : i = j
      ·subst e
       rw [Array.getElem?_setIfInBounds_self, if_pos (by rw [hsz]; exact hlt)]
       simp
      ·rw [Array.getElem?_setIfInBounds_ne e, ← Array.getD_eq_getD_getElem?, hL j]
       simp [show ¬ j = i from fun q => e q.symm]
     ·intro j hj
      rcases List.mem_cons.1 hj with rfl | hj
      ·exact hlt
      ·exact hLb j hj
     ·have : ((List.range ops.length).filter fun j => !(listed.setIfInBounds i true).getD j false).length < ((List.range ops.length).filter fun j => !listed.getD j false).length := by
       refine filter_less (i := i) ?_ (List.mem_range.2 hlt) ?_ ?_
       ·intro j hj hq
        by_cases e : i = j
        ·subst e
         rw [Array.getD_eq_getD_getElem?, Array.getElem?_setIfInBounds_self, if_pos (by rw [hsz]; exact hlt)] at hq
         simp at hq
        ·rw [Array.getD_eq_getD_getElem?, Array.getElem?_setIfInBounds_ne e, ← Array.getD_eq_getD_getElem?] at hq
         exact hq
       ·have h4 : listed.getD i false ≠ true := fun q => hnl ((hL i).1 q)
        simpa using h4
       ·rw [Array.getD_eq_getD_getElem?, Array.getElem?_setIfInBounds_self, if_pos (by rw [hsz]; exact hlt)]
        simp
      omega
     ·intro k u hk
      unfold flatS at hk
      rw [slot_app] at hk
      cases hd : slot k (dstv ops vs i) with
      | some x =>
       rw [hd] at hk
       cases hk
       obtain ⟨h5, h6⟩ := slot_dstv.1 hd
       rw [hv] at h6
       cases h6
       rw [nthD_eq, ho] at h5
       simp only [Option.bind_some] at h5
       rw [h5]
       unfold putS slot
       simp
      | none =>
       rw [hd] at hk
       have h7 : slot k (flatS ops vs (depOf o) σ ++ flatS ops vs L σ) = some u := by
        rw [slot_app]
        cases hd2 : slot k (flatS ops vs (depOf o) σ) with
        | some x => have hk' : slot k (flatS ops vs L σ) = some u := hk; have := hcons k x hd2; rw [hk'] at this; exact this.symm
        | none => exact hk
       cases hdo : o.dst with
       | none => exact h7
       | some d =>
        unfold putS slot
        have hne : Nat.beq d k = false := by
         cases hb : Nat.beq d k with
         | false => rfl
         | true =>
          exfalso
          have e := Nat.eq_of_beq_eq_true hb
          subst e
          rw [slot_dstv.2 ⟨by rw [nthD_eq, ho]; exact hdo, hv⟩] at hd
          cases hd
        simp only [hne, cond_false]
        exact h7
    unfold wpOpIn
    simp only [h2]
    unfold wpListIn at hrun
    split at hrun
    ·rename_i hw1
     rw [if_pos hw1]
     exact wpIn_swap (Oper.wpIn_mono (fun a' w' h => hnext a' w' h) hrun)
    ·rename_i hw1
     rw [if_neg hw1]
     exact ⟨fun _ _ => trivial, hnext _ _ hrun.2⟩
 refine key _ [] _ a w.drew (by simp) (fun j => ?_) (fun j hj => by cases hj) ?_ ha hw.drew
 ·constructor
  ·intro h
   rw [Array.getD_eq_getD_getElem?, Array.getElem?_replicate] at h
   split at h <;> simp at h
  ·intro h
   cases h
 ·have := List.length_filter_le (fun j => !(Array.replicate ops.toArray.size false).getD j false) (List.range ops.length)
  simpa using this
end
section
variable {P : Program} {ro : Option Nat} {n N : Nat} {ds : List Deferred} {w0 : World} {X : Nat → Prop} {Q : Exit → Act → World → Prop} {σ : Slots} {η : Hp}
theorem DrawOps.nil {ops : List Oper} {vs : List Value} : DrawOps P ro n N ds w0 X ops vs σ η [] [] := trivial
theorem DrawOps.cons {ops : List Oper} {vs : List Value} {o : Oper} {r : List Oper} {v : Value} {vr : List Value} (h : ∀ τ, XO P ro n N ds w0 X (OnePost N ds w0 X η (putS o.dst v (flatS ops vs (depOf o) σ ++ τ))) ops (flatS ops vs (depOf o) σ ++ τ) η [o])
  (t : DrawOps P ro n N ds w0 X ops vs σ η r vr) : DrawOps P ro n N ds w0 X ops vs σ η (o :: r) (v :: vr) := ⟨h, t⟩
theorem xc_drawN {id : Nat} {ops : List Oper} {vs : List Value} (hmix : P.follows .mixedOrders = true) (hbind : true = true) (hdeps : depsB 0 ops = true) (hdist : distB (dstsOf_ ops) = true) (hfresh : freshB σ (dstsOf_ ops) = true)
  (hop : DrawOps P ro n N ds w0 X ops vs σ η ops vs) (hlen : Nat.beq vs.length ops.length = true) (hQ : XQ N ds w0 X Q .normal (flatS ops vs (List.range ops.length) σ) η) : XC P ro n N ds w0 X Q σ η (.region id ops.toArray true) :=
 xc_draw vs hmix hlen hbind hdeps hdist hfresh hop hQ
theorem xo_fin {ops : List Oper} {d : Option Tmp} {u v : Value} (e : u = v) : XO P ro n N ds w0 X (OnePost N ds w0 X η (putS d v σ)) ops (putS d u σ) η [] := by
 subst e
 exact xo_nil fun a w ha hw => ⟨ha, hw⟩
theorem xoF {ops : List Oper} {d : Option Tmp} {u v : Value} (e : u = v := by exact rfl) : XO P ro n N ds w0 X (OnePost N ds w0 X η (putS d v σ)) ops (putS d u σ) η [] := xo_fin e
end
theorem RO.fld {w : World} {X : Nat → Prop} {p : Addr} {cs : List Value} {j : Nat} {v : Value} (h : RO w X p cs) (hj : cs[j]? = some v) : RO w X (p.add j) [v] := fun i u hi => by
 cases i with
 | zero => simp at hi; subst hi; rw [Addr.add_zero']; exact h j _ hj
 | succ i => simp at hi
theorem xc_slots {P : Program} {ro : Option Nat} {n N : Nat} {ds : List Deferred} {w0 : World} {X : Nat → Prop} {Q : Exit → Act → World → Prop} {σ : Slots} {η : Hp} {c : Code} (σ' : Slots) (hs : subS σ' σ) (h : XC P ro n N ds w0 X Q σ' η c) : XC P ro n N ds w0 X Q σ η c := fun a w ha hw => h a w (ha.sub hs) hw
end Go.Proofs.YtommeljlfkmpjaaDoor.Q
