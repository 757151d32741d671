/- SX: rows of the call's own: append, make, elements at a computed place. No program in sight. / What SX asks of this seat's types (written by wip/tools/gen_tys.py). / The kinds of this seat's values (printed by the kit's kinds.py). / trust.in: all numbers of a list are from lo to hi; slices.IndexFunc, ContainsFunc, Index, Contains over whole numbers. / trust: what its functions answer, in plain Lean. / trust.recorded: are records valid? -/
import Derived.Test.YtcmepdamemnbkaaDoorPkLawTrustExamples1
import Derived.Maps.AppendAt
import Derived.Deep.OwnRows
import Derived.Test.YtcmepdamemnbkaaDoorProg
import Derived.KernelRfl
namespace Go.Proofs.YtcmepdamemnbkaaDoor
open Go.RowKit Go.MapKept
attribute [local go_sem] Oper.semAt_some
set_option linter.unusedVariables false
set_option linter.unusedSimpArgs false
/-- a row that has been appended to: n elements of sz cells -/
def orow (e : TypeId) (sz n cap : Nat) (xs : List Value) : HP := fun o => ∃ cur : Array Value, o = .cells cur e (0, 0) ∧ n ≤ cap ∧ cap ≤ maxLen ∧ cur.size = cap * sz ∧ cur.toList.take (n * sz) = xs
abbrev RowR := Option (Nat × Nat)
def valR (r : RowR) (n : Nat) : Value := match r with
  | none => .slice none 0 0
  | some p => .slice (some ⟨p.1, 0, none⟩) n p.2
def hpR (e : TypeId) (sz : Nat) (r : RowR) (n : Nat) (xs : List Value) : Hp := match r with
  | none => []
  | some p => [(p.1, true, orow e sz n p.2 xs)]
theorem Upd.app {b : Nat} {φ' : HP} {r r' : Hp} (h : Upd b φ' r r') : ∀ l : Hp, Upd b φ' (l ++ r) (l ++ r')
  | [] => h
  | e :: l => .tail (h.app l)
/-- what append asks of an element type -/
structure TysR (P : Program) extends Tys P where
  inf : List (Nat × Value × Nat × Nat)
  hinf : ∀ p ∈ inf, (P.info? p.1).map (fun i => (i.zero, i.size, i.bytes)) = some (some p.2.1, p.2.2.1, p.2.2.2)
/-- what a struct that is built asks -/
structure TysB (P : Program) extends TysR P where
  bl : List (Nat × List (Nat × Nat) × Array Value)
  hbl : ∀ p ∈ bl, ∀ (parts : Array (Nat × Value)) (cs : Array Value) (w : World), Instr.fill (fun i => p.2.1[i]?) p.2.2 parts.toList = some cs → (Instr.build p.1 parts).run P w = .ok (.agg cs) w
def evp (σ : Slots) : List (Nat × Operand) → Option (List (Nat × Value))
  | [] => some []
  | p :: r => match ev σ p.2, evp σ r with
    | some v, some vs => some ((p.1, v) :: vs)
    | _, _ => none
theorem SOK.evp {N : Nat} {ds : List Deferred} {σ : Slots} {a : Act} (h : SOK N ds σ a) : ∀ {xs : List (Nat × Operand)} {vs : List (Nat × Value)}, evp σ xs = some vs → xs.map (fun p => (p.1, a.eval p.2)) = vs
  | [], vs, e => by cases e; rfl
  | x :: r, vs, e => by
    unfold Go.Proofs.YtcmepdamemnbkaaDoor.evp at e
    split at e
    · rename_i v ws h1 h2
      cases e
      rw [List.map_cons, h.ev h1, h.evp h2]
    · cases e
/-- what a struct holds, built out of parts -/
def fillL : List (Nat × Nat) → List Value → List (Nat × Value) → Option (List Value)
  | _, cs, [] => some cs
  | pl, cs, p :: r => match nth p.1 pl with
    | some q => match Nat.beq p.2.cells.toList.length q.2, setSeg q.1 p.2.cells.toList cs with
      | true, some cs' => fillL pl cs' r
      | _, _ => none
    | none => none
theorem foldl_set : ∀ (vs : List Value) (o j : Nat) (cs cs' : List Value), setSeg (o + j) vs cs = some cs' → o + j + vs.length ≤ cs.length ∧ (vs.zipIdx j).foldl (fun (a : Array Value) (p : Value × Nat) => a.setIfInBounds (o + p.2) p.1) cs.toArray = cs'.toArray := by
  have put1 : ∀ (k : Nat) (v : Value) (vs cs cs' : List Value), setSeg k (v :: vs) cs = some cs' → k < cs.length ∧ setSeg (k + 1) vs (cs.set k v) = some cs' := by
    intro k
    induction k with
    | zero =>
      intro v vs cs cs' h
      cases cs with
      | nil => simp [setSeg] at h
      | cons x r =>
        simp only [setSeg] at h
        split at h
        · rename_i r' hr
          cases h
          refine ⟨by simp, ?_⟩
          simp only [List.set_cons_zero, setSeg, Nat.zero_add, hr]
        · cases h
    | succ k ih =>
      intro v vs cs cs' h
      cases cs with
      | nil => simp [setSeg] at h
      | cons x r =>
        simp only [setSeg] at h
        split at h
        · rename_i r' hr
          cases h
          have := ih v vs r r' hr
          refine ⟨by simp; exact this.1, ?_⟩
          simp only [List.set_cons_succ, setSeg, this.2]
        · cases h
  have done : ∀ (k : Nat) (cs cs' : List Value), setSeg k [] cs = some cs' → cs' = cs ∧ k ≤ cs.length := by
    intro k
    induction k with
    | zero => intro cs cs' h; simp [setSeg] at h; exact ⟨h.symm, Nat.zero_le _⟩
    | succ k ih =>
      intro cs cs' h
      cases cs with
      | nil => simp [setSeg] at h
      | cons x r =>
        simp only [setSeg] at h
        split at h
        · rename_i r' hr
          cases h
          have := ih r r' hr
          exact ⟨by rw [this.1], by simp; exact this.2⟩
        · cases h
  intro vs
  induction vs with
  | nil =>
    intro o j cs cs' h
    have := done _ _ _ h
    exact ⟨by simpa using this.2, by simp [this.1]⟩
  | cons v vs ih =>
    intro o j cs cs' h
    obtain ⟨h1, h2⟩ := put1 _ _ _ _ _ h
    have h3 := ih o (j + 1) (cs.set (o + j) v) cs' (by rw [show o + (j + 1) = o + j + 1 from rfl]; exact h2)
    simp only [List.length_set] at h3
    refine ⟨by simp only [List.length_cons]; omega, ?_⟩
    simp only [List.zipIdx_cons, List.foldl_cons]
    rw [← h3.2]
    congr 1
    simp
theorem fillL_eq (pl : List (Nat × Nat)) : ∀ (ps : List (Nat × Value)) (cs cs' : List Value), fillL pl cs ps = some cs' → Instr.fill (fun i => pl[i]?) cs.toArray ps = some cs'.toArray
  | [], cs, cs', h => by simp [fillL] at h; simp [Instr.fill, h]
  | p :: r, cs, cs', h => by
    unfold fillL at h
    split at h
    · rename_i q hq
      split at h
      · rename_i c2 h1 h2
        have ih := fillL_eq pl r c2 cs' h
        rw [nth_eq] at hq
        have h3 := Nat.eq_of_beq_eq_true h1
        obtain ⟨h4, h5⟩ := foldl_set p.2.cells.toList q.1 0 cs c2 (by simpa using h2)
        obtain ⟨qo, qs⟩ := q
        simp only at h3 h4 h5
        simp only [Instr.fill, hq]
        have h6 : p.2.cells.size = qs := by rw [← h3]; simp
        rw [if_neg (by simp only [h6, ne_eq, not_true_eq_false, decide_false, Bool.false_or, decide_eq_true_eq, gt_iff_lt, List.size_toArray, Nat.not_lt]; simp at h4; omega)]
        have h7 : p.2.cells.zipIdx.foldl (fun (cs : Array Value) (x : Value × Nat) => cs.setIfInBounds (qo + x.2) x.1) cs.toArray = c2.toArray := by
          rw [← h5, ← Array.foldl_toList]
          congr 1
          simp
        rw [← ih, ← h7]
      · cases h
    · cases h
section
variable {P : Program} {ro : Option Nat} {n N : Nat} {ds : List Deferred} {w0 : World} {X : Nat → Prop} {Q : Exit → Act → World → Prop} {ops : List Oper} {σ : Slots} {η : Hp} {rest : List Oper}
variable {d : Option Tmp} {ty : TypeId} {pos : String} {aft : Array Edge} {g : Option (Nat × Bool)}
theorem WOK.owns {w : World} {e : TypeId} {sz m : Nat} {r : RowR} {xs : List Value} {η0 : Hp} (h : WOK w0 X (hpR e sz r m xs ++ η0) w) (hx : xs.length = m * sz) (h0 : r = none → m = 0) : w.ownsRow 0 e sz (valR r m) m xs := by
  refine ⟨hx, ?_⟩
  cases r with
  | none => exact .inl ⟨rfl, h0 rfl⟩
  | some p =>
    obtain ⟨o, h1, cur, rfl, h2, h3, h4, h5⟩ := h.bl (p.1, true, orow e sz m p.2 xs) (List.mem_append_left _ (List.mem_cons_self ..))
    exact .inr ⟨p.1, p.2, cur, rfl, Nat.zero_le _, h1, h2, h3, h4, h5⟩
/-- append of one element that lies in a block of its own; the row stands first but for that block -/
theorem xo_app (T : TysR P) {t e : TypeId} {s x : Operand} {z : Value} {sz by_ m : Nat} {r : RowR} {xs news : List Value} {b : Nat} {wr : Bool} {η0 : Hp} (hg : gS ops σ g = some true) (ht : look t T.el = some e) (hi : look e T.inf = some (z, sz, by_)) (hzs : z.cells.toList.length = sz) (hsz : Nat.blt 0 sz = true)
    (hs : ev σ s = some (valR r m)) (hx : ev σ x = some (.slice (some ⟨b, 0, none⟩) 1 1)) (hη : η = (b, wr, cel news e) :: (hpR e sz r m xs ++ η0)) (hl : xs.length = m * sz) (hn : news.length = sz) (h1 : news.all (·.oneCell') = true) (h0 : r = none → m = 0)
    (hb : (m + 1) * by_ ≤ 140737488355328) (hb0 : Nat.blt 0 by_ = true) (hN : dstOK N d = true)
    (h : ∀ r' : RowR, r' ≠ none → XO P ro n N ds w0 X Q ops (putS d (valR r' (m + 1)) σ) (hpR e sz r' (m + 1) (xs ++ news) ++ η0) rest) :
    XO P ro n N ds w0 X Q ops σ η (⟨d, .call { callee := .builtin .append, args := #[s, x], argTypes := #[t, t] }, ty, pos, aft, g⟩ :: rest) := by
  subst hη
  refine xo_base rfl hg fun a w ha hw => ?_
  have hT := T.hel _ (look_mem ht)
  obtain ⟨i, hi1, hi2⟩ := Option.map_eq_some_iff.1 (T.hinf _ (look_mem hi))
  simp only [Prod.mk.injEq] at hi2
  obtain ⟨iz, isz, iby⟩ := hi2
  have hw' := hw.sub (List.sublist_cons_self _ _)
  have hown := hw'.owns hl h0
  have hb1 : 0 < by_ := by simpa [Nat.blt_eq] using hb0
  have hlen : m + 1 ≤ 140737488355328 := Nat.le_trans (Nat.le_mul_of_pos_right _ hb1) hb
  obtain ⟨v', w', hr, own', hgr, hnil, hat⟩ := run_append_own_at (P := P) w 0 t ty e i z sz by_ hT hi1 iz isz iby (by simpa using hzs) (by simpa [Nat.blt_eq] using hsz) (valR r m) m xs hown ⟨b, 0, none⟩ 1 1 news (by omega)
    (fun j u hj => by rw [Addr.add_lit, Nat.zero_add]; exact hw.cell (List.mem_cons_self ..) j hj) (by simpa using h1) (by simp only [maxLen]; omega) hb (Nat.zero_le _)
  obtain ⟨h2, h3⟩ := own'
  rcases h3 with ⟨_, h3⟩ | ⟨g', cap', cur, rfl, _, h4, h5, h6, h7, h8⟩
  · exact absurd h3 (by omega)
  refine ⟨.value (.slice (some ⟨g', 0, none⟩) (m + 1) cap'), w', _, ?_, .inl rfl, h (some (g', cap')) (by simp) _ _ (ha.put hN _) ?_⟩
  · simp only [execOp, resolve, invoke, builtin, Sem.run_bind, Sem.run_pure, Result.andThen_ok, List.map_toArray, List.map_cons, List.map_nil, ha.ev hs, ha.ev hx, hr]
  · have hη0 := hw'.sub (List.sublist_append_right (hpR e sz r m xs) η0)
    have hold : ∀ k, k < w.heap.size → (∀ p, r = some p → k ≠ p.1) → w'.heap[k]? = w.heap[k]? := fun k hk hne => hgr.block k hk (fun e' => by
      cases r with
      | none => simp [valR, Value.ownBlock] at e'
      | some p => simp [valR, Value.ownBlock] at e'; exact hne p rfl e')
    have hne0 : ∀ e' ∈ η0, ∀ p, r = some p → e'.1 ≠ p.1 := fun e' he p hp q => by
      subst hp
      have hnd := hw'.nd
      simp only [hpR, List.cons_append, List.nil_append, List.map_cons, List.nodup_cons] at hnd
      exact hnd.1 (List.mem_map.2 ⟨e', he, q⟩)
    have hrow : ∀ p, r = some p → w0.heap.size ≤ p.1 ∨ X p.1 := fun p hp => by
      subst hp
      exact hw'.ow (p.1, true, orow e sz m p.2 xs) (List.mem_append_left _ (List.mem_cons_self ..)) rfl
    have hg' : (∃ p, r = some p ∧ g' = p.1) ∨ g' = w.heap.size := by
      rcases hat with hat | hat
      · left
        cases r with
        | none => simp [valR, Value.ownBlock] at hat
        | some p => simp [valR, Value.ownBlock] at hat; exact ⟨p, rfl, hat⟩
      · right
        simpa [Value.ownBlock] using hat
    refine ⟨⟨hgr.os.trans hη0.kx.os, hgr.tape.trans hη0.kx.tape, hgr.output.trans hη0.kx.output, Nat.le_trans hη0.kx.size hgr.size, fun k hk hx => ?_⟩, ?_, ?_, ?_⟩
    · refine (hold k (Nat.lt_of_lt_of_le hk hη0.kx.size) (fun p hp q => ?_)).trans (hη0.kx.block k hk hx)
      subst q
      rcases hrow p hp with h9 | h9
      · exact absurd hk (Nat.not_lt.2 h9)
      · exact hx h9
    · intro e' he
      rcases List.mem_append.1 he with he | he
      · simp only [hpR, List.mem_singleton] at he
        subst he
        exact ⟨_, h4, cur, rfl, h5, h6, h7, h8⟩
      · obtain ⟨o, h9, h10⟩ := hη0.bl e' he
        exact ⟨o, (hold _ (hη0.lt he) (hne0 e' he)).trans h9, h10⟩
    · simp only [hpR, List.cons_append, List.nil_append, List.map_cons, List.nodup_cons]
      refine ⟨fun hm => ?_, hη0.nd⟩
      obtain ⟨e', he, q⟩ := List.mem_map.1 hm
      rcases hg' with ⟨p, hp, hg'⟩ | hg'
      · exact hne0 e' he p hp (q.trans hg')
      · have := hη0.lt he
        omega
    · intro e' he hwr
      rcases List.mem_append.1 he with he | he
      · simp only [hpR, List.mem_singleton] at he
        subst he
        rcases hg' with ⟨p, hp, hg'⟩ | hg'
        · rw [show g' = p.1 from hg']; exact hrow p hp
        · exact .inl (by rw [show g' = _ from hg']; exact hη0.kx.size)
      · exact hη0.ow e' he hwr
theorem xo_build (T : TysB P) {t : TypeId} {parts : List (Nat × Operand)} {pl : List (Nat × Nat)} {z : Array Value} {ps : List (Nat × Value)} {cs : List Value} (hg : gS ops σ g = some true) (ht : look t T.bl = some (pl, z)) (hp : evp σ parts = some ps) (hc : fillL pl z.toList ps = some cs) (hN : dstOK N d = true)
    (h : XO P ro n N ds w0 X Q ops (putS d (.agg cs.toArray) σ) η rest) : XO P ro n N ds w0 X Q ops σ η (⟨d, .build t parts.toArray, ty, pos, aft, g⟩ :: rest) :=
  xo_val _ rfl hg hN (fun a w ha hw => by
    have h1 := fillL_eq pl ps z.toList cs hc
    simp only [Array.toArray_toList] at h1
    have h2 := T.hbl _ (look_mem ht) ps.toArray cs.toArray w (by simpa using h1)
    have h3 := ha.evp hp
    simp only [execOp, List.map_toArray, Sem.run_bind]
    rw [show (parts.map fun (i, x) => (i, a.eval x)) = ps from h3, h2]
    rfl) h
/-- an element at a computed place of a block of the call's own -/
theorem xo_loadI (T : Tys P) {t : TypeId} {x : Operand} {b o k : Nat} {wr : Bool} {cs : List Value} {te : TypeId} {v : Value} (hg : gS ops σ g = some true) (ht : look t T.tk = some 0) (hx : ev σ x = some (.pointer (some (Addr.add ⟨b, o, none⟩ k)))) (hm : (b, wr, cel cs te) ∈ η) (hv : cs[o + k]? = some v) (hN : dstOK N d = true)
    (h : XO P ro n N ds w0 X Q ops (putS d v σ) η rest) : XO P ro n N ds w0 X Q ops σ η (⟨d, .load t x, ty, pos, aft, g⟩ :: rest) :=
  xo_val v rfl hg hN (fun a w ha hw => by
    have h1 := (T.htk _ (look_mem ht)).1 w
    have h2 := hw.cell hm (o + k) hv
    have h3 := ha.ev hx
    rw [Addr.add_lit] at h3
    simp [execOp, h3, Instr.loadAt, Instr.sureAddr, loadVar, h1, h2]) h
theorem xo_storeI (T : Tys P) {t : TypeId} {p x : Operand} {b o k : Nat} {cs : List Value} {te : TypeId} {v : Value} {η' : Hp} (hg : gS ops σ g = some true) (ht : look t T.tk = some 0) (hp : ev σ p = some (.pointer (some (Addr.add ⟨b, o, none⟩ k)))) (hx : ev σ x = some v)
    (hm : (b, true, cel cs te) ∈ η) (hv : v.cells = #[v]) (h1 : v.oneCell' = true) (hlt : o + k < cs.length) (hU : Upd b (cel (cs.set (o + k) v) te) η η') (hN : dstOK N d = true)
    (h : XO P ro n N ds w0 X Q ops (putS d undef σ) η' rest) : XO P ro n N ds w0 X Q ops σ η (⟨d, .store t p x, ty, pos, aft, g⟩ :: rest) :=
  xo_base rfl hg fun a w ha hw => by
    have h2 : (sizeOf t).run P w = .ok 1 w := (T.htk _ (look_mem ht)).2 w
    have hb := hw.obj hm
    have hcell : w.cell? ⟨b, o + k, none⟩ = some (cs[o + k]'hlt) := by
      rw [cell_of_row w b (o + k) _ te _ hb]
      simp [List.getElem?_eq_getElem hlt]
    have hfz : w.frozen? ⟨b, o + k, none⟩ = false := frozen_of_row w b (o + k) _ te hb
    have hst : (store ⟨b, o + k, none⟩ v .plain).run P w = .ok () (w.setCell ⟨b, o + k, none⟩ v) := by
      rw [run_store P w _ v _ h1, hcell]
      simp [hfz]
    have hb' : (w.setCell ⟨b, o + k, none⟩ v).heap[b]? = some (.cells (cs.set (o + k) v).toArray te (0, 0)) := by
      rw [heap_setCell_same w b (o + k) _ te v hb]
      simp
    have h3 := ha.ev hp
    rw [Addr.add_lit] at h3
    refine ⟨.skip, _, undef, ?_, .inr ⟨rfl, rfl⟩, h _ _ (ha.put hN _) (hw.upd hU (OneB.setCell w b (o + k) v) hb' rfl)⟩
    simp only [execOp, h3, ha.ev hx, Instr.storeAt, Instr.sureAddr, storeVar, Sem.run_bind, Sem.run_pure, Result.andThen_ok, h2, hv, List.size_toArray, List.length_cons, List.length_nil, ne_eq, not_true_eq_false, ↓reduceIte, storeCells, Addr.add_zero', hst]
/-- an element of a row that has been appended to -/
theorem xo_loadO (T : Tys P) {t : TypeId} {x : Operand} {b m cap k : Nat} {wr : Bool} {xs : List Value} {te : TypeId} {v : Value} (hg : gS ops σ g = some true) (ht : look t T.tk = some 0) (hx : ev σ x = some (.pointer (some (Addr.add ⟨b, 0, none⟩ k)))) (hm : (b, wr, orow te 1 m cap xs) ∈ η) (hv : xs[k]? = some v) (hN : dstOK N d = true)
    (h : XO P ro n N ds w0 X Q ops (putS d v σ) η rest) : XO P ro n N ds w0 X Q ops σ η (⟨d, .load t x, ty, pos, aft, g⟩ :: rest) :=
  xo_val v rfl hg hN (fun a w ha hw => by
    have h1 := (T.htk _ (look_mem ht)).1 w
    obtain ⟨o, h4, cur, rfl, h5, h6, h7, h8⟩ := hw.bl _ hm
    have h2 : w.cell? ⟨b, k, none⟩ = some v := by
      rw [cell_of_row w b k _ te _ h4, ← Array.getElem?_toList]
      rw [← h8] at hv
      rw [List.getElem?_take] at hv
      split at hv
      · exact hv
      · cases hv
    have h3 := ha.ev hx
    rw [Addr.add_lit, Nat.zero_add] at h3
    simp [execOp, h3, Instr.loadAt, Instr.sureAddr, loadVar, h1, h2]) h
end
end Go.Proofs.YtcmepdamemnbkaaDoor
namespace Go.Proofs.YtcmepdamemnbkaaDoor
open Go.RowKit
set_option linter.unusedVariables false
set_option linter.unusedSimpArgs false
section
variable {P : Program} {ro : Option Nat} {n N : Nat} {ds : List Deferred} {w0 : World} {X : Nat → Prop} {Q : Exit → Act → World → Prop} {ops : List Oper} {σ : Slots} {η : Hp} {rest : List Oper}
variable {d : Option Tmp} {ty : TypeId} {pos : String} {aft : Array Edge} {g : Option (Nat × Bool)}
/-- a store into a row that has been appended to -/
theorem xo_storeO (T : Tys P) {t : TypeId} {p x : Operand} {b k m cap : Nat} {xs : List Value} {te : TypeId} {v : Value} {η' : Hp} (hg : gS ops σ g = some true) (ht : look t T.tk = some 0) (hp : ev σ p = some (.pointer (some (Addr.add ⟨b, 0, none⟩ k)))) (hx : ev σ x = some v)
    (hm : (b, true, orow te 1 m cap xs) ∈ η) (hv : v.cells = #[v]) (h1 : v.oneCell' = true) (hlt : k < m) (hU : Upd b (orow te 1 m cap (xs.set k v)) η η') (hN : dstOK N d = true)
    (h : XO P ro n N ds w0 X Q ops (putS d undef σ) η' rest) : XO P ro n N ds w0 X Q ops σ η (⟨d, .store t p x, ty, pos, aft, g⟩ :: rest) :=
  xo_base rfl hg fun a w ha hw => by
    have h2 : (sizeOf t).run P w = .ok 1 w := (T.htk _ (look_mem ht)).2 w
    obtain ⟨o, h4, cur, rfl, h5, h6, h7, h8⟩ := hw.bl _ hm
    have hkc : k < cur.size := by omega
    have hcell : w.cell? ⟨b, k, none⟩ = some (cur[k]'hkc) := by
      rw [cell_of_row w b k _ te _ h4]
      simp [Array.getElem?_eq_getElem hkc]
    have hfz : w.frozen? ⟨b, k, none⟩ = false := frozen_of_row w b k _ te h4
    have hst : (store ⟨b, k, none⟩ v .plain).run P w = .ok () (w.setCell ⟨b, k, none⟩ v) := by
      rw [run_store P w _ v _ h1, hcell]
      simp [hfz]
    have hb' : (w.setCell ⟨b, k, none⟩ v).heap[b]? = some (.cells (cur.setIfInBounds k v) te (0, 0)) := heap_setCell_same w b k _ te v h4
    have h3 := ha.ev hp
    rw [Addr.add_lit, Nat.zero_add] at h3
    refine ⟨.skip, _, undef, ?_, .inr ⟨rfl, rfl⟩, h _ _ (ha.put hN _) (hw.upd hU (OneB.setCell w b k v) hb' ⟨_, rfl, h5, h6, by simpa using h7, ?_⟩)⟩
    · simp only [execOp, h3, ha.ev hx, Instr.storeAt, Instr.sureAddr, storeVar, Sem.run_bind, Sem.run_pure, Result.andThen_ok, h2, hv, List.size_toArray, List.length_cons, List.length_nil, ne_eq, not_true_eq_false, ↓reduceIte, storeCells, Addr.add_zero', hst]
    · rw [Array.toList_setIfInBounds, ← h8, List.take_set]
/-- from a place on -/
theorem xo_sliceLo (T : Tys P) {t e : TypeId} {x lo : Operand} {b m cap i : Nat} (hg : gS ops σ g = some true) (ht : look t T.el = some e) (hk : look e T.tk = some 0) (hx : ev σ x = some (.slice (some ⟨b, 0, none⟩) m cap)) (hl : ev σ lo = some (.int .i64 (i : Int))) (hi : i ≤ m) (hc : i < cap) (hN : dstOK N d = true)
    (h : XO P ro n N ds w0 X Q ops (putS d (.slice (some ⟨b, i, none⟩) (m - i) (cap - i)) σ) η rest) : XO P ro n N ds w0 X Q ops σ η (⟨d, .slice t x (some lo) none none, ty, pos, aft, g⟩ :: rest) :=
  xo_val _ rfl hg hN (fun a w ha hw => by
    have h1 := T.hel _ (look_mem ht)
    simp only at h1
    have h2 : (sizeOf e).run P w = .ok 1 w := (T.htk _ (look_mem hk)).2 w
    have hel : P.elem t = e := by simp [Program.elem, h1]
    have hu : P.underlying t = some (.slice (P.elem t)) := by rw [hel]; exact h1
    have h3 := run_slice_l (P := P) w t (some ⟨b, 0, none⟩) m cap hu .i64 (i : Int) (by omega) (by omega)
    rw [hel, h2] at h3
    simp only [execOp, Option.map_some, Option.map_none, ha.ev hx, ha.ev hl, Sem.run_bind, run_sliceAt_slice (P := P) w t _ _ _ _ hu, h3, Result.andThen_ok, sliced]
    have : ¬ cap = i := by omega
    simp [this, Addr.add_lit]) h
/-- up to a place -/
theorem xo_sliceHi (T : Tys P) {t e : TypeId} {x hi_ : Operand} {b m cap i : Nat} (hg : gS ops σ g = some true) (ht : look t T.el = some e) (hk : look e T.tk = some 0) (hx : ev σ x = some (.slice (some ⟨b, 0, none⟩) m cap)) (hl : ev σ hi_ = some (.int .i64 (i : Int))) (hc : i ≤ cap) (hN : dstOK N d = true)
    (h : XO P ro n N ds w0 X Q ops (putS d (.slice (some ⟨b, 0, none⟩) i cap) σ) η rest) : XO P ro n N ds w0 X Q ops σ η (⟨d, .slice t x none (some hi_) none, ty, pos, aft, g⟩ :: rest) :=
  xo_val _ rfl hg hN (fun a w ha hw => by
    have h1 := T.hel _ (look_mem ht)
    simp only at h1
    have h2 : (sizeOf e).run P w = .ok 1 w := (T.htk _ (look_mem hk)).2 w
    have hel : P.elem t = e := by simp [Program.elem, h1]
    have hu : P.underlying t = some (.slice (P.elem t)) := by rw [hel]; exact h1
    have h3 := run_slice_h (P := P) w t (some ⟨b, 0, none⟩) m cap hu .i64 (i : Int) (by omega) (by omega)
    rw [hel, h2] at h3
    simp only [execOp, Option.map_some, Option.map_none, ha.ev hx, ha.ev hl, Sem.run_bind, run_sliceAt_slice (P := P) w t _ _ _ _ hu, h3, Result.andThen_ok, sliced]
    simp [Addr.add_zero']) h
theorem setSeg_ok : ∀ (i : Nat) (vs cs : List Value), i + vs.length ≤ cs.length → ∃ cs', setSeg i vs cs = some cs' ∧ cs'.length = cs.length ∧ cs'.take i = cs.take i := by
  intro i
  induction i with
  | zero =>
    intro vs
    induction vs with
    | nil => intro cs _; exact ⟨cs, by simp [setSeg], rfl, rfl⟩
    | cons v vs ih =>
      intro cs h
      cases cs with
      | nil => simp at h
      | cons x r =>
        obtain ⟨c', h1, h2, _⟩ := ih r (by simp at h ⊢; omega)
        exact ⟨v :: c', by simp [setSeg, h1], by simp [h2], by simp⟩
  | succ i ih =>
    intro vs cs h
    cases cs with
    | nil => simp at h
    | cons x r =>
      obtain ⟨c', h1, h2, h3⟩ := ih vs r (by simp at h ⊢; omega)
      exact ⟨x :: c', by simp [setSeg, h1], by simp [h2], by simp [h3]⟩
/-- the rest is cleared: what lies ahead of it stays -/
theorem xo_clear (T : Tys P) {t e : TypeId} {x : Operand} {b m cap i k c : Nat} {xs : List Value} {z : Value} {η' : Hp} (hg : gS ops σ g = some true) (ht : look t T.el = some e) (hz : look e T.zs = some z) (hzc : z.cells = #[z]) (hz1 : z.oneCell' = true) (hx : ev σ x = some (.slice (some ⟨b, i, none⟩) k c)) (hk : i + k = m) (hkp : 0 < k)
    (hm : (b, true, orow e 1 m cap xs) ∈ η) (hU : Upd b (orow e 1 i cap (xs.take i)) η η') (hN : dstOK N d = true)
    (h : XO P ro n N ds w0 X Q ops (putS d (.tuple #[]) σ) η' rest) : XO P ro n N ds w0 X Q ops σ η (⟨d, .call { callee := .builtin .clear, args := #[x], argTypes := #[t] }, ty, pos, aft, g⟩ :: rest) :=
  xo_base rfl hg fun a w ha hw => by
    have h1 := T.hel _ (look_mem ht)
    have h3 := T.hzs _ (look_mem hz) w
    simp only at h1 h3
    obtain ⟨o, h4, cur, rfl, h5, h6, h7, h8⟩ := hw.bl _ hm
    have hzl : (Builtin.zeroCells z.cells k).toList.length = k := by
      have := size_zeroCells z.cells k
      rw [hzc] at this ⊢
      simpa using this
    have hall : ∀ v ∈ (Builtin.zeroCells z.cells k).toList, v.oneCell' = true := by
      intro v hv
      rw [hzc] at hv
      simp only [Builtin.zeroCells, Array.toList_map, List.mem_map, Nat.mod_one] at hv
      obtain ⟨j, _, rfl⟩ := hv
      simp [hz1, Nat.mod_one]
    obtain ⟨cs', hs, hl', ht'⟩ := setSeg_ok i (Builtin.zeroCells z.cells k).toList cur.toList (by rw [hzl]; simp; omega)
    obtain ⟨w', hr, ho, hb⟩ := run_storeCells (P := P) b e (Builtin.zeroCells z.cells k).toList cur.toList i 0 cs' w hall hs (by simpa using h4)
    refine ⟨_, w', .tuple #[], ?_, .inl rfl, h _ _ (ha.put hN _) (hw.upd hU ho hb ⟨cs'.toArray, rfl, by omega, h6, by simp [hl', h7], ?_⟩)⟩
    · obtain ⟨k', rfl⟩ : ∃ q, k = q + 1 := ⟨k - 1, by omega⟩
      simp [execOp, resolve, invoke, builtin, Builtin.clear_, run_underlying h1, h3, ha.ev hx, hr]
    · simp only [Nat.mul_one]
      rw [ht', ← h8, Nat.mul_one, List.take_take, Nat.min_eq_left (by omega)]
end
end Go.Proofs.YtcmepdamemnbkaaDoor
namespace Go.Proofs.YtcmepdamemnbkaaDoor
open Go.RowKit
set_option linter.unusedVariables false
set_option linter.unusedSimpArgs false
def aggD : TypeDesc → Bool
  | .struct _ | .array _ _ => true
  | _ => false
theorem tk_of {P : Program} {t k : Nat} {d : TypeDesc} (hu : P.underlying t = some d) (hd : aggD d = Nat.blt 0 k) (hi : (P.info? t).map (·.size) = some (bif Nat.beq k 0 then 1 else k)) :
    (∀ w, (isAgg (t, k).1).run P w = .ok (Nat.blt 0 (t, k).2) w) ∧ (∀ w, (sizeOf (t, k).1).run P w = .ok (bif Nat.beq (t, k).2 0 then 1 else (t, k).2) w) := by
  refine ⟨fun w => ?_, fun w => ?_⟩
  · show (isAgg t).run P w = .ok (Nat.blt 0 k) w
    rw [← hd]
    unfold isAgg
    rw [Sem.run_bind, run_underlying hu w]
    cases d <;> rfl
  · obtain ⟨i, h1, h2⟩ := Option.map_eq_some_iff.1 hi
    show (sizeOf t).run P w = .ok (bif Nat.beq k 0 then 1 else k) w
    rw [← h2]
    simp [sizeOf, typeInfo, h1]
theorem zs_of {P : Program} {t : Nat} {v : Value} (hi : (P.info? t).bind (·.zero) = some v) : ∀ w, (zeroValue (t, v).1).run P w = .ok (t, v).2 w := by
  intro w
  obtain ⟨i, h1, h2⟩ := Option.bind_eq_some_iff.1 hi
  show (zeroValue t).run P w = .ok v w
  simp [zeroValue, typeInfo, h1, h2]
def ty_tk : List (Nat × Nat) := [(1, 0), (2, 0), (3, 0), (4, 0), (5, 0), (6, 0), (7, 4), (8, 4), (9, 0), (10, 0), (11, 0), (12, 0), (13, 2), (14, 2), (15, 0), (16, 0), (17, 0), (18, 1), (19, 1), (21, 0), (22, 0), (23, 0), (24, 0), (25, 0), (26, 6), (27, 6), (28, 0), (30, 0), (32, 0), (33, 0), (35, 0), (37, 0), (38, 0), (39, 0), (40, 0), (41, 0), (42, 0), (43, 0), (44, 0), (45, 0), (46, 0), (47, 0), (48, 0), (49, 3), (50, 3), (51, 4), (52, 4), (53, 4), (54, 4), (56, 0), (57, 0), (58, 0), (59, 0), (60, 0), (61, 0), (62, 0), (64, 0), (66, 0), (67, 0), (68, 0), (69, 0), (70, 0), (71, 0), (72, 0), (73, 0), (74, 0), (75, 0), (76, 0), (77, 0), (78, 0), (79, 0), (80, 0), (82, 0), (83, 0), (84, 0), (85, 0), (86, 0), (88, 0), (89, 0), (90, 2), (91, 2), (93, 0), (94, 0), (95, 0), (96, 0), (97, 0), (98, 0), (99, 0), (100, 0), (101, 0), (102, 0), (103, 0), (104, 0), (105, 0), (106, 0), (107, 6), (108, 0), (109, 0), (110, 0), (111, 0), (112, 4), (113, 4), (114, 0), (115, 0), (116, 0), (117, 0), (118, 0), (119, 0), (120, 0), (122, 0), (123, 0), (124, 0), (125, 0), (126, 0), (127, 0), (128, 0), (129, 0), (131, 0), (132, 0), (133, 0), (134, 0), (135, 0), (136, 0), (137, 0), (138, 0), (139, 0), (140, 0), (141, 0), (142, 0), (143, 0), (144, 0), (145, 0), (147, 0), (148, 0), (149, 4), (150, 4), (154, 0), (155, 0), (156, 0), (157, 0), (158, 0), (159, 0), (160, 0), (161, 11), (162, 11)]
def ty_zs : List (Nat × Value) := [(1, .nilFunc), (2, (.int .i64 0)), (3, (.int .i64 0)), (4, (.bool false)), (5, (.int .u8 0)), (6, (.int .u8 0)), (7, (.agg #[(.int .i64 0), (.int .i64 0), (.bool false), (.int .u8 0)])), (8, (.agg #[(.int .i64 0), (.int .i64 0), (.bool false), (.int .u8 0)])), (9, (.string ⟨#[]⟩)), (10, (.string ⟨#[]⟩)), (11, (.string ⟨#[]⟩)), (12, (.int .u64 0)), (13, (.agg #[(.string ⟨#[]⟩), (.int .u64 0)])), (14, (.agg #[(.string ⟨#[]⟩), (.int .u64 0)])), (15, (.pointer none)), (16, (.pointer none)), (17, (.pointer none)), (18, (.agg #[(.pointer none)])), (19, (.agg #[(.pointer none)])), (21, (.int .i32 0)), (22, (.slice none 0 0)), (23, (.slice none 0 0)), (24, (.slice none 0 0)), (25, .nilFunc), (26, (.agg #[(.int .i64 0), (.int .i64 0), (.int .i64 0), (.int .i64 0), (.int .i64 0), (.int .i64 0)])), (27, (.agg #[(.int .i64 0), (.int .i64 0), (.int .i64 0), (.int .i64 0), (.int .i64 0), (.int .i64 0)])), (28, (.int .i64 0)), (30, .nilFunc), (32, .nilFunc), (33, (.slice none 0 0)), (35, .nilFunc), (37, .nilFunc), (38, .nilFunc), (39, .nilFunc), (40, .nilFunc), (41, .nilFunc), (42, .nilFunc), (43, .nilFunc), (44, .nilFunc), (45, .nilFunc), (46, .nilFunc), (47, .nilFunc), (48, (.slice none 0 0)), (49, (.agg #[(.int .i64 0), (.int .u8 0), (.slice none 0 0)])), (50, (.agg #[(.int .i64 0), (.int .u8 0), (.slice none 0 0)])), (51, (.agg #[(.int .i64 0), (.int .i64 0), (.int .i64 0), (.int .u8 0)])), (52, (.agg #[(.int .i64 0), (.int .i64 0), (.int .i64 0), (.int .u8 0)])), (53, (.agg #[(.int .i64 0), (.int .i64 0), (.int .u8 0), (.int .i64 0)])), (54, (.agg #[(.int .i64 0), (.int .i64 0), (.int .u8 0), (.int .i64 0)])), (56, .nilFunc), (57, .nilFunc), (58, .nilFunc), (59, (.int .u32 0)), (60, .nilFunc), (61, .nilFunc), (62, (.map none)), (64, .nilFunc), (66, .nilFunc), (67, .nilFunc), (68, .nilFunc), (69, (.slice none 0 0)), (70, .nilFunc), (71, (.int .u16 0)), (72, .nilFunc), (73, .nilFunc), (74, .nilFunc), (75, .nilFunc), (76, .nilFunc), (77, (.map none)), (78, .nilFunc), (79, .nilFunc), (80, (.map none)), (82, .nilFunc), (83, .nilFunc), (84, .nilFunc), (85, .nilFunc), (86, (.pointer none)), (88, .nilFunc), (89, .nilFunc), (90, (.agg #[(.slice none 0 0), (.map none)])), (91, (.agg #[(.slice none 0 0), (.map none)])), (93, .nilFunc), (94, .nilFunc), (95, .nilFunc), (96, .nilFunc), (97, .nilFunc), (98, .nilFunc), (99, .nilFunc), (100, .nilFunc), (101, .nilFunc), (102, .nilFunc), (103, .nilFunc), (104, .nilFunc), (105, .nilFunc), (106, .nilFunc), (107, (.agg #[.nilFunc, .nilFunc, .nilFunc, .nilFunc, .nilFunc, .nilFunc])), (108, .nilFunc), (109, .nilFunc), (110, .nilFunc), (111, .nilFunc), (112, (.agg #[(.int .i64 0), (.int .u8 0), (.slice none 0 0), (.map none)])), (113, (.agg #[(.int .i64 0), (.int .u8 0), (.slice none 0 0), (.map none)])), (114, .nilFunc), (115, .nilFunc), (116, .nilFunc), (117, .nilFunc), (118, .nilFunc), (119, .nilFunc), (120, .nilFunc), (122, .nilFunc), (123, .nilFunc), (124, .nilFunc), (125, .nilFunc), (126, (.int .u64 0)), (127, .nilFunc), (128, .nilFunc), (129, (.int .i64 0)), (131, .nilFunc), (132, .nilFunc), (133, .nilFunc), (134, .nilFunc), (135, .nilFunc), (136, .nilFunc), (137, .nilFunc), (138, (.int .u64 0)), (139, (.int .u64 0)), (140, .nilFunc), (141, .nilFunc), (142, .nilFunc), (143, (.pointer none)), (144, .nilFunc), (145, (.pointer none)), (147, .nilFunc), (148, .nilFunc), (149, (.agg #[(.pointer none), (.pointer none), (.pointer none), (.string ⟨#[]⟩)])), (150, (.agg #[(.pointer none), (.pointer none), (.pointer none), (.string ⟨#[]⟩)])), (154, .nilFunc), (155, (.int .u8 0)), (156, (.int .u8 0)), (157, .nilFunc), (158, (.pointer none)), (159, (.int .i32 0)), (160, (.int .i32 0)), (161, (.agg #[(.int .u64 0), (.int .u64 0), (.int .u32 0), (.int .u8 0), (.int .u8 0), (.int .u8 0), (.int .u8 0), .nilFunc, (.pointer none), (.int .i32 0), (.int .i32 0)])), (162, (.agg #[(.int .u64 0), (.int .u64 0), (.int .u32 0), (.int .u8 0), (.int .u8 0), (.int .u8 0), (.int .u8 0), .nilFunc, (.pointer none), (.int .i32 0), (.int .i32 0)]))]
def ty_fo : List (Nat × List Nat) := [(7, [0, 1, 2, 3]), (8, [0, 1, 2, 3]), (13, [0, 1]), (14, [0, 1]), (18, [0]), (19, [0]), (26, [0, 1, 2, 3, 4, 5]), (27, [0, 1, 2, 3, 4, 5]), (49, [0, 1, 2]), (50, [0, 1, 2]), (51, [0, 1, 2, 3]), (52, [0, 1, 2, 3]), (53, [0, 1, 2, 3]), (54, [0, 1, 2, 3]), (90, [0, 1]), (91, [0, 1]), (112, [0, 3]), (113, [0, 3]), (149, [0, 1, 2, 3]), (150, [0, 1, 2, 3]), (161, [0, 1, 2, 3, 4, 5, 6, 7, 8, 9, 10]), (162, [0, 1, 2, 3, 4, 5, 6, 7, 8, 9, 10])]
def ty_el : List (Nat × Nat) := [(22, 50), (23, 52), (24, 54), (33, 3), (48, 33), (69, 4)]
def ty_ik : List (Nat × IntKind) := [(2, .i64), (3, .i64), (5, .u8), (6, .u8), (12, .u64), (21, .i32), (28, .i64), (59, .u32), (71, .u16), (126, .u64), (129, .i64), (138, .u64), (139, .u64), (155, .u8), (156, .u8), (159, .i32), (160, .i32)]
def ty_mp : List (Nat × Nat × Nat) := [(62, 3, 4), (77, 3, 3), (80, 3, 86)]
set_option maxRecDepth 10000 in
theorem ty_htk : ∀ p ∈ ty_tk, (∀ w, (isAgg p.1).run Tryd.prog w = .ok (Nat.blt 0 p.2) w) ∧ (∀ w, (sizeOf p.1).run Tryd.prog w = .ok (bif Nat.beq p.2 0 then 1 else p.2) w) := by
  unfold ty_tk
  simp only [List.mem_cons, List.not_mem_nil, or_false, forall_eq_or_imp, forall_eq]
  exact ⟨tk_of (k := 0) Tryd.underlying1 rfl (by kernel_rfl),
    tk_of (k := 0) Tryd.underlying2 rfl (by kernel_rfl),
    tk_of (k := 0) Tryd.underlying3 rfl (by kernel_rfl),
    tk_of (k := 0) Tryd.underlying4 rfl (by kernel_rfl),
    tk_of (k := 0) Tryd.underlying5 rfl (by kernel_rfl),
    tk_of (k := 0) Tryd.underlying6 rfl (by kernel_rfl),
    tk_of (k := 4) Tryd.underlying7 rfl (by kernel_rfl),
    tk_of (k := 4) Tryd.underlying8 rfl (by kernel_rfl),
    tk_of (k := 0) Tryd.underlying9 rfl (by kernel_rfl),
    tk_of (k := 0) Tryd.underlying10 rfl (by kernel_rfl),
    tk_of (k := 0) Tryd.underlying11 rfl (by kernel_rfl),
    tk_of (k := 0) Tryd.underlying12 rfl (by kernel_rfl),
    tk_of (k := 2) Tryd.underlying13 rfl (by kernel_rfl),
    tk_of (k := 2) Tryd.underlying14 rfl (by kernel_rfl),
    tk_of (k := 0) Tryd.underlying15 rfl (by kernel_rfl),
    tk_of (k := 0) Tryd.underlying16 rfl (by kernel_rfl),
    tk_of (k := 0) Tryd.underlying17 rfl (by kernel_rfl),
    tk_of (k := 1) Tryd.underlying18 rfl (by kernel_rfl),
    tk_of (k := 1) Tryd.underlying19 rfl (by kernel_rfl),
    tk_of (k := 0) Tryd.underlying21 rfl (by kernel_rfl),
    tk_of (k := 0) Tryd.underlying22 rfl (by kernel_rfl),
    tk_of (k := 0) Tryd.underlying23 rfl (by kernel_rfl),
    tk_of (k := 0) Tryd.underlying24 rfl (by kernel_rfl),
    tk_of (k := 0) Tryd.underlying25 rfl (by kernel_rfl),
    tk_of (k := 6) Tryd.underlying26 rfl (by kernel_rfl),
    tk_of (k := 6) Tryd.underlying27 rfl (by kernel_rfl),
    tk_of (k := 0) Tryd.underlying28 rfl (by kernel_rfl),
    tk_of (k := 0) Tryd.underlying30 rfl (by kernel_rfl),
    tk_of (k := 0) Tryd.underlying32 rfl (by kernel_rfl),
    tk_of (k := 0) Tryd.underlying33 rfl (by kernel_rfl),
    tk_of (k := 0) Tryd.underlying35 rfl (by kernel_rfl),
    tk_of (k := 0) Tryd.underlying37 rfl (by kernel_rfl),
    tk_of (k := 0) Tryd.underlying38 rfl (by kernel_rfl),
    tk_of (k := 0) Tryd.underlying39 rfl (by kernel_rfl),
    tk_of (k := 0) Tryd.underlying40 rfl (by kernel_rfl),
    tk_of (k := 0) Tryd.underlying41 rfl (by kernel_rfl),
    tk_of (k := 0) Tryd.underlying42 rfl (by kernel_rfl),
    tk_of (k := 0) Tryd.underlying43 rfl (by kernel_rfl),
    tk_of (k := 0) Tryd.underlying44 rfl (by kernel_rfl),
    tk_of (k := 0) Tryd.underlying45 rfl (by kernel_rfl),
    tk_of (k := 0) Tryd.underlying46 rfl (by kernel_rfl),
    tk_of (k := 0) Tryd.underlying47 rfl (by kernel_rfl),
    tk_of (k := 0) Tryd.underlying48 rfl (by kernel_rfl),
    tk_of (k := 3) Tryd.underlying49 rfl (by kernel_rfl),
    tk_of (k := 3) Tryd.underlying50 rfl (by kernel_rfl),
    tk_of (k := 4) Tryd.underlying51 rfl (by kernel_rfl),
    tk_of (k := 4) Tryd.underlying52 rfl (by kernel_rfl),
    tk_of (k := 4) Tryd.underlying53 rfl (by kernel_rfl),
    tk_of (k := 4) Tryd.underlying54 rfl (by kernel_rfl),
    tk_of (k := 0) Tryd.underlying56 rfl (by kernel_rfl),
    tk_of (k := 0) Tryd.underlying57 rfl (by kernel_rfl),
    tk_of (k := 0) Tryd.underlying58 rfl (by kernel_rfl),
    tk_of (k := 0) Tryd.underlying59 rfl (by kernel_rfl),
    tk_of (k := 0) Tryd.underlying60 rfl (by kernel_rfl),
    tk_of (k := 0) Tryd.underlying61 rfl (by kernel_rfl),
    tk_of (k := 0) Tryd.underlying62 rfl (by kernel_rfl),
    tk_of (k := 0) Tryd.underlying64 rfl (by kernel_rfl),
    tk_of (k := 0) Tryd.underlying66 rfl (by kernel_rfl),
    tk_of (k := 0) Tryd.underlying67 rfl (by kernel_rfl),
    tk_of (k := 0) Tryd.underlying68 rfl (by kernel_rfl),
    tk_of (k := 0) Tryd.underlying69 rfl (by kernel_rfl),
    tk_of (k := 0) Tryd.underlying70 rfl (by kernel_rfl),
    tk_of (k := 0) Tryd.underlying71 rfl (by kernel_rfl),
    tk_of (k := 0) Tryd.underlying72 rfl (by kernel_rfl),
    tk_of (k := 0) Tryd.underlying73 rfl (by kernel_rfl),
    tk_of (k := 0) Tryd.underlying74 rfl (by kernel_rfl),
    tk_of (k := 0) Tryd.underlying75 rfl (by kernel_rfl),
    tk_of (k := 0) Tryd.underlying76 rfl (by kernel_rfl),
    tk_of (k := 0) Tryd.underlying77 rfl (by kernel_rfl),
    tk_of (k := 0) Tryd.underlying78 rfl (by kernel_rfl),
    tk_of (k := 0) Tryd.underlying79 rfl (by kernel_rfl),
    tk_of (k := 0) Tryd.underlying80 rfl (by kernel_rfl),
    tk_of (k := 0) Tryd.underlying82 rfl (by kernel_rfl),
    tk_of (k := 0) Tryd.underlying83 rfl (by kernel_rfl),
    tk_of (k := 0) Tryd.underlying84 rfl (by kernel_rfl),
    tk_of (k := 0) Tryd.underlying85 rfl (by kernel_rfl),
    tk_of (k := 0) Tryd.underlying86 rfl (by kernel_rfl),
    tk_of (k := 0) Tryd.underlying88 rfl (by kernel_rfl),
    tk_of (k := 0) Tryd.underlying89 rfl (by kernel_rfl),
    tk_of (k := 2) Tryd.underlying90 rfl (by kernel_rfl),
    tk_of (k := 2) Tryd.underlying91 rfl (by kernel_rfl),
    tk_of (k := 0) Tryd.underlying93 rfl (by kernel_rfl),
    tk_of (k := 0) Tryd.underlying94 rfl (by kernel_rfl),
    tk_of (k := 0) Tryd.underlying95 rfl (by kernel_rfl),
    tk_of (k := 0) Tryd.underlying96 rfl (by kernel_rfl),
    tk_of (k := 0) Tryd.underlying97 rfl (by kernel_rfl),
    tk_of (k := 0) Tryd.underlying98 rfl (by kernel_rfl),
    tk_of (k := 0) Tryd.underlying99 rfl (by kernel_rfl),
    tk_of (k := 0) Tryd.underlying100 rfl (by kernel_rfl),
    tk_of (k := 0) Tryd.underlying101 rfl (by kernel_rfl),
    tk_of (k := 0) Tryd.underlying102 rfl (by kernel_rfl),
    tk_of (k := 0) Tryd.underlying103 rfl (by kernel_rfl),
    tk_of (k := 0) Tryd.underlying104 rfl (by kernel_rfl),
    tk_of (k := 0) Tryd.underlying105 rfl (by kernel_rfl),
    tk_of (k := 0) Tryd.underlying106 rfl (by kernel_rfl),
    tk_of (k := 6) Tryd.underlying107 rfl (by kernel_rfl),
    tk_of (k := 0) Tryd.underlying108 rfl (by kernel_rfl),
    tk_of (k := 0) Tryd.underlying109 rfl (by kernel_rfl),
    tk_of (k := 0) Tryd.underlying110 rfl (by kernel_rfl),
    tk_of (k := 0) Tryd.underlying111 rfl (by kernel_rfl),
    tk_of (k := 4) Tryd.underlying112 rfl (by kernel_rfl),
    tk_of (k := 4) Tryd.underlying113 rfl (by kernel_rfl),
    tk_of (k := 0) Tryd.underlying114 rfl (by kernel_rfl),
    tk_of (k := 0) Tryd.underlying115 rfl (by kernel_rfl),
    tk_of (k := 0) Tryd.underlying116 rfl (by kernel_rfl),
    tk_of (k := 0) Tryd.underlying117 rfl (by kernel_rfl),
    tk_of (k := 0) Tryd.underlying118 rfl (by kernel_rfl),
    tk_of (k := 0) Tryd.underlying119 rfl (by kernel_rfl),
    tk_of (k := 0) Tryd.underlying120 rfl (by kernel_rfl),
    tk_of (k := 0) Tryd.underlying122 rfl (by kernel_rfl),
    tk_of (k := 0) Tryd.underlying123 rfl (by kernel_rfl),
    tk_of (k := 0) Tryd.underlying124 rfl (by kernel_rfl),
    tk_of (k := 0) Tryd.underlying125 rfl (by kernel_rfl),
    tk_of (k := 0) Tryd.underlying126 rfl (by kernel_rfl),
    tk_of (k := 0) Tryd.underlying127 rfl (by kernel_rfl),
    tk_of (k := 0) Tryd.underlying128 rfl (by kernel_rfl),
    tk_of (k := 0) Tryd.underlying129 rfl (by kernel_rfl),
    tk_of (k := 0) Tryd.underlying131 rfl (by kernel_rfl),
    tk_of (k := 0) Tryd.underlying132 rfl (by kernel_rfl),
    tk_of (k := 0) Tryd.underlying133 rfl (by kernel_rfl),
    tk_of (k := 0) Tryd.underlying134 rfl (by kernel_rfl),
    tk_of (k := 0) Tryd.underlying135 rfl (by kernel_rfl),
    tk_of (k := 0) Tryd.underlying136 rfl (by kernel_rfl),
    tk_of (k := 0) Tryd.underlying137 rfl (by kernel_rfl),
    tk_of (k := 0) Tryd.underlying138 rfl (by kernel_rfl),
    tk_of (k := 0) Tryd.underlying139 rfl (by kernel_rfl),
    tk_of (k := 0) Tryd.underlying140 rfl (by kernel_rfl),
    tk_of (k := 0) Tryd.underlying141 rfl (by kernel_rfl),
    tk_of (k := 0) Tryd.underlying142 rfl (by kernel_rfl),
    tk_of (k := 0) Tryd.underlying143 rfl (by kernel_rfl),
    tk_of (k := 0) Tryd.underlying144 rfl (by kernel_rfl),
    tk_of (k := 0) Tryd.underlying145 rfl (by kernel_rfl),
    tk_of (k := 0) Tryd.underlying147 rfl (by kernel_rfl),
    tk_of (k := 0) Tryd.underlying148 rfl (by kernel_rfl),
    tk_of (k := 4) Tryd.underlying149 rfl (by kernel_rfl),
    tk_of (k := 4) Tryd.underlying150 rfl (by kernel_rfl),
    tk_of (k := 0) Tryd.underlying154 rfl (by kernel_rfl),
    tk_of (k := 0) Tryd.underlying155 rfl (by kernel_rfl),
    tk_of (k := 0) Tryd.underlying156 rfl (by kernel_rfl),
    tk_of (k := 0) Tryd.underlying157 rfl (by kernel_rfl),
    tk_of (k := 0) Tryd.underlying158 rfl (by kernel_rfl),
    tk_of (k := 0) Tryd.underlying159 rfl (by kernel_rfl),
    tk_of (k := 0) Tryd.underlying160 rfl (by kernel_rfl),
    tk_of (k := 11) Tryd.underlying161 rfl (by kernel_rfl),
    tk_of (k := 11) Tryd.underlying162 rfl (by kernel_rfl)⟩
set_option maxRecDepth 10000 in
theorem ty_hzs : ∀ p ∈ ty_zs, ∀ w, (zeroValue p.1).run Tryd.prog w = .ok p.2 w := by
  unfold ty_zs
  simp only [List.mem_cons, List.not_mem_nil, or_false, forall_eq_or_imp, forall_eq]
  exact ⟨zs_of (t := 1) (v := .nilFunc) (by kernel_rfl),
    zs_of (t := 2) (v := (.int .i64 0)) (by kernel_rfl),
    zs_of (t := 3) (v := (.int .i64 0)) (by kernel_rfl),
    zs_of (t := 4) (v := (.bool false)) (by kernel_rfl),
    zs_of (t := 5) (v := (.int .u8 0)) (by kernel_rfl),
    zs_of (t := 6) (v := (.int .u8 0)) (by kernel_rfl),
    zs_of (t := 7) (v := (.agg #[(.int .i64 0), (.int .i64 0), (.bool false), (.int .u8 0)])) (by kernel_rfl),
    zs_of (t := 8) (v := (.agg #[(.int .i64 0), (.int .i64 0), (.bool false), (.int .u8 0)])) (by kernel_rfl),
    zs_of (t := 9) (v := (.string ⟨#[]⟩)) (by kernel_rfl),
    zs_of (t := 10) (v := (.string ⟨#[]⟩)) (by kernel_rfl),
    zs_of (t := 11) (v := (.string ⟨#[]⟩)) (by kernel_rfl),
    zs_of (t := 12) (v := (.int .u64 0)) (by kernel_rfl),
    zs_of (t := 13) (v := (.agg #[(.string ⟨#[]⟩), (.int .u64 0)])) (by kernel_rfl),
    zs_of (t := 14) (v := (.agg #[(.string ⟨#[]⟩), (.int .u64 0)])) (by kernel_rfl),
    zs_of (t := 15) (v := (.pointer none)) (by kernel_rfl),
    zs_of (t := 16) (v := (.pointer none)) (by kernel_rfl),
    zs_of (t := 17) (v := (.pointer none)) (by kernel_rfl),
    zs_of (t := 18) (v := (.agg #[(.pointer none)])) (by kernel_rfl),
    zs_of (t := 19) (v := (.agg #[(.pointer none)])) (by kernel_rfl),
    zs_of (t := 21) (v := (.int .i32 0)) (by kernel_rfl),
    zs_of (t := 22) (v := (.slice none 0 0)) (by kernel_rfl),
    zs_of (t := 23) (v := (.slice none 0 0)) (by kernel_rfl),
    zs_of (t := 24) (v := (.slice none 0 0)) (by kernel_rfl),
    zs_of (t := 25) (v := .nilFunc) (by kernel_rfl),
    zs_of (t := 26) (v := (.agg #[(.int .i64 0), (.int .i64 0), (.int .i64 0), (.int .i64 0), (.int .i64 0), (.int .i64 0)])) (by kernel_rfl),
    zs_of (t := 27) (v := (.agg #[(.int .i64 0), (.int .i64 0), (.int .i64 0), (.int .i64 0), (.int .i64 0), (.int .i64 0)])) (by kernel_rfl),
    zs_of (t := 28) (v := (.int .i64 0)) (by kernel_rfl),
    zs_of (t := 30) (v := .nilFunc) (by kernel_rfl),
    zs_of (t := 32) (v := .nilFunc) (by kernel_rfl),
    zs_of (t := 33) (v := (.slice none 0 0)) (by kernel_rfl),
    zs_of (t := 35) (v := .nilFunc) (by kernel_rfl),
    zs_of (t := 37) (v := .nilFunc) (by kernel_rfl),
    zs_of (t := 38) (v := .nilFunc) (by kernel_rfl),
    zs_of (t := 39) (v := .nilFunc) (by kernel_rfl),
    zs_of (t := 40) (v := .nilFunc) (by kernel_rfl),
    zs_of (t := 41) (v := .nilFunc) (by kernel_rfl),
    zs_of (t := 42) (v := .nilFunc) (by kernel_rfl),
    zs_of (t := 43) (v := .nilFunc) (by kernel_rfl),
    zs_of (t := 44) (v := .nilFunc) (by kernel_rfl),
    zs_of (t := 45) (v := .nilFunc) (by kernel_rfl),
    zs_of (t := 46) (v := .nilFunc) (by kernel_rfl),
    zs_of (t := 47) (v := .nilFunc) (by kernel_rfl),
    zs_of (t := 48) (v := (.slice none 0 0)) (by kernel_rfl),
    zs_of (t := 49) (v := (.agg #[(.int .i64 0), (.int .u8 0), (.slice none 0 0)])) (by kernel_rfl),
    zs_of (t := 50) (v := (.agg #[(.int .i64 0), (.int .u8 0), (.slice none 0 0)])) (by kernel_rfl),
    zs_of (t := 51) (v := (.agg #[(.int .i64 0), (.int .i64 0), (.int .i64 0), (.int .u8 0)])) (by kernel_rfl),
    zs_of (t := 52) (v := (.agg #[(.int .i64 0), (.int .i64 0), (.int .i64 0), (.int .u8 0)])) (by kernel_rfl),
    zs_of (t := 53) (v := (.agg #[(.int .i64 0), (.int .i64 0), (.int .u8 0), (.int .i64 0)])) (by kernel_rfl),
    zs_of (t := 54) (v := (.agg #[(.int .i64 0), (.int .i64 0), (.int .u8 0), (.int .i64 0)])) (by kernel_rfl),
    zs_of (t := 56) (v := .nilFunc) (by kernel_rfl),
    zs_of (t := 57) (v := .nilFunc) (by kernel_rfl),
    zs_of (t := 58) (v := .nilFunc) (by kernel_rfl),
    zs_of (t := 59) (v := (.int .u32 0)) (by kernel_rfl),
    zs_of (t := 60) (v := .nilFunc) (by kernel_rfl),
    zs_of (t := 61) (v := .nilFunc) (by kernel_rfl),
    zs_of (t := 62) (v := (.map none)) (by kernel_rfl),
    zs_of (t := 64) (v := .nilFunc) (by kernel_rfl),
    zs_of (t := 66) (v := .nilFunc) (by kernel_rfl),
    zs_of (t := 67) (v := .nilFunc) (by kernel_rfl),
    zs_of (t := 68) (v := .nilFunc) (by kernel_rfl),
    zs_of (t := 69) (v := (.slice none 0 0)) (by kernel_rfl),
    zs_of (t := 70) (v := .nilFunc) (by kernel_rfl),
    zs_of (t := 71) (v := (.int .u16 0)) (by kernel_rfl),
    zs_of (t := 72) (v := .nilFunc) (by kernel_rfl),
    zs_of (t := 73) (v := .nilFunc) (by kernel_rfl),
    zs_of (t := 74) (v := .nilFunc) (by kernel_rfl),
    zs_of (t := 75) (v := .nilFunc) (by kernel_rfl),
    zs_of (t := 76) (v := .nilFunc) (by kernel_rfl),
    zs_of (t := 77) (v := (.map none)) (by kernel_rfl),
    zs_of (t := 78) (v := .nilFunc) (by kernel_rfl),
    zs_of (t := 79) (v := .nilFunc) (by kernel_rfl),
    zs_of (t := 80) (v := (.map none)) (by kernel_rfl),
    zs_of (t := 82) (v := .nilFunc) (by kernel_rfl),
    zs_of (t := 83) (v := .nilFunc) (by kernel_rfl),
    zs_of (t := 84) (v := .nilFunc) (by kernel_rfl),
    zs_of (t := 85) (v := .nilFunc) (by kernel_rfl),
    zs_of (t := 86) (v := (.pointer none)) (by kernel_rfl),
    zs_of (t := 88) (v := .nilFunc) (by kernel_rfl),
    zs_of (t := 89) (v := .nilFunc) (by kernel_rfl),
    zs_of (t := 90) (v := (.agg #[(.slice none 0 0), (.map none)])) (by kernel_rfl),
    zs_of (t := 91) (v := (.agg #[(.slice none 0 0), (.map none)])) (by kernel_rfl),
    zs_of (t := 93) (v := .nilFunc) (by kernel_rfl),
    zs_of (t := 94) (v := .nilFunc) (by kernel_rfl),
    zs_of (t := 95) (v := .nilFunc) (by kernel_rfl),
    zs_of (t := 96) (v := .nilFunc) (by kernel_rfl),
    zs_of (t := 97) (v := .nilFunc) (by kernel_rfl),
    zs_of (t := 98) (v := .nilFunc) (by kernel_rfl),
    zs_of (t := 99) (v := .nilFunc) (by kernel_rfl),
    zs_of (t := 100) (v := .nilFunc) (by kernel_rfl),
    zs_of (t := 101) (v := .nilFunc) (by kernel_rfl),
    zs_of (t := 102) (v := .nilFunc) (by kernel_rfl),
    zs_of (t := 103) (v := .nilFunc) (by kernel_rfl),
    zs_of (t := 104) (v := .nilFunc) (by kernel_rfl),
    zs_of (t := 105) (v := .nilFunc) (by kernel_rfl),
    zs_of (t := 106) (v := .nilFunc) (by kernel_rfl),
    zs_of (t := 107) (v := (.agg #[.nilFunc, .nilFunc, .nilFunc, .nilFunc, .nilFunc, .nilFunc])) (by kernel_rfl),
    zs_of (t := 108) (v := .nilFunc) (by kernel_rfl),
    zs_of (t := 109) (v := .nilFunc) (by kernel_rfl),
    zs_of (t := 110) (v := .nilFunc) (by kernel_rfl),
    zs_of (t := 111) (v := .nilFunc) (by kernel_rfl),
    zs_of (t := 112) (v := (.agg #[(.int .i64 0), (.int .u8 0), (.slice none 0 0), (.map none)])) (by kernel_rfl),
    zs_of (t := 113) (v := (.agg #[(.int .i64 0), (.int .u8 0), (.slice none 0 0), (.map none)])) (by kernel_rfl),
    zs_of (t := 114) (v := .nilFunc) (by kernel_rfl),
    zs_of (t := 115) (v := .nilFunc) (by kernel_rfl),
    zs_of (t := 116) (v := .nilFunc) (by kernel_rfl),
    zs_of (t := 117) (v := .nilFunc) (by kernel_rfl),
    zs_of (t := 118) (v := .nilFunc) (by kernel_rfl),
    zs_of (t := 119) (v := .nilFunc) (by kernel_rfl),
    zs_of (t := 120) (v := .nilFunc) (by kernel_rfl),
    zs_of (t := 122) (v := .nilFunc) (by kernel_rfl),
    zs_of (t := 123) (v := .nilFunc) (by kernel_rfl),
    zs_of (t := 124) (v := .nilFunc) (by kernel_rfl),
    zs_of (t := 125) (v := .nilFunc) (by kernel_rfl),
    zs_of (t := 126) (v := (.int .u64 0)) (by kernel_rfl),
    zs_of (t := 127) (v := .nilFunc) (by kernel_rfl),
    zs_of (t := 128) (v := .nilFunc) (by kernel_rfl),
    zs_of (t := 129) (v := (.int .i64 0)) (by kernel_rfl),
    zs_of (t := 131) (v := .nilFunc) (by kernel_rfl),
    zs_of (t := 132) (v := .nilFunc) (by kernel_rfl),
    zs_of (t := 133) (v := .nilFunc) (by kernel_rfl),
    zs_of (t := 134) (v := .nilFunc) (by kernel_rfl),
    zs_of (t := 135) (v := .nilFunc) (by kernel_rfl),
    zs_of (t := 136) (v := .nilFunc) (by kernel_rfl),
    zs_of (t := 137) (v := .nilFunc) (by kernel_rfl),
    zs_of (t := 138) (v := (.int .u64 0)) (by kernel_rfl),
    zs_of (t := 139) (v := (.int .u64 0)) (by kernel_rfl),
    zs_of (t := 140) (v := .nilFunc) (by kernel_rfl),
    zs_of (t := 141) (v := .nilFunc) (by kernel_rfl),
    zs_of (t := 142) (v := .nilFunc) (by kernel_rfl),
    zs_of (t := 143) (v := (.pointer none)) (by kernel_rfl),
    zs_of (t := 144) (v := .nilFunc) (by kernel_rfl),
    zs_of (t := 145) (v := (.pointer none)) (by kernel_rfl),
    zs_of (t := 147) (v := .nilFunc) (by kernel_rfl),
    zs_of (t := 148) (v := .nilFunc) (by kernel_rfl),
    zs_of (t := 149) (v := (.agg #[(.pointer none), (.pointer none), (.pointer none), (.string ⟨#[]⟩)])) (by kernel_rfl),
    zs_of (t := 150) (v := (.agg #[(.pointer none), (.pointer none), (.pointer none), (.string ⟨#[]⟩)])) (by kernel_rfl),
    zs_of (t := 154) (v := .nilFunc) (by kernel_rfl),
    zs_of (t := 155) (v := (.int .u8 0)) (by kernel_rfl),
    zs_of (t := 156) (v := (.int .u8 0)) (by kernel_rfl),
    zs_of (t := 157) (v := .nilFunc) (by kernel_rfl),
    zs_of (t := 158) (v := (.pointer none)) (by kernel_rfl),
    zs_of (t := 159) (v := (.int .i32 0)) (by kernel_rfl),
    zs_of (t := 160) (v := (.int .i32 0)) (by kernel_rfl),
    zs_of (t := 161) (v := (.agg #[(.int .u64 0), (.int .u64 0), (.int .u32 0), (.int .u8 0), (.int .u8 0), (.int .u8 0), (.int .u8 0), .nilFunc, (.pointer none), (.int .i32 0), (.int .i32 0)])) (by kernel_rfl),
    zs_of (t := 162) (v := (.agg #[(.int .u64 0), (.int .u64 0), (.int .u32 0), (.int .u8 0), (.int .u8 0), (.int .u8 0), (.int .u8 0), .nilFunc, (.pointer none), (.int .i32 0), (.int .i32 0)])) (by kernel_rfl)⟩
theorem ty_fo7 : ∀ f off, ([0, 1, 2, 3] : List Nat)[f]? = some off → ∀ a w, (Instr.fieldAt 7 (.pointer (some a)) f).run Tryd.prog w = .ok (.pointer (some (a.add off))) w := by
  intro f off h a w
  rcases f with _ | _ | _ | _ | f <;> simp at h <;> subst h <;> go_simp
theorem ty_fo8 : ∀ f off, ([0, 1, 2, 3] : List Nat)[f]? = some off → ∀ a w, (Instr.fieldAt 8 (.pointer (some a)) f).run Tryd.prog w = .ok (.pointer (some (a.add off))) w := by
  intro f off h a w
  rcases f with _ | _ | _ | _ | f <;> simp at h <;> subst h <;> go_simp
theorem ty_fo13 : ∀ f off, ([0, 1] : List Nat)[f]? = some off → ∀ a w, (Instr.fieldAt 13 (.pointer (some a)) f).run Tryd.prog w = .ok (.pointer (some (a.add off))) w := by
  intro f off h a w
  rcases f with _ | _ | f <;> simp at h <;> subst h <;> go_simp
theorem ty_fo14 : ∀ f off, ([0, 1] : List Nat)[f]? = some off → ∀ a w, (Instr.fieldAt 14 (.pointer (some a)) f).run Tryd.prog w = .ok (.pointer (some (a.add off))) w := by
  intro f off h a w
  rcases f with _ | _ | f <;> simp at h <;> subst h <;> go_simp
theorem ty_fo18 : ∀ f off, ([0] : List Nat)[f]? = some off → ∀ a w, (Instr.fieldAt 18 (.pointer (some a)) f).run Tryd.prog w = .ok (.pointer (some (a.add off))) w := by
  intro f off h a w
  rcases f with _ | f <;> simp at h <;> subst h <;> go_simp
theorem ty_fo19 : ∀ f off, ([0] : List Nat)[f]? = some off → ∀ a w, (Instr.fieldAt 19 (.pointer (some a)) f).run Tryd.prog w = .ok (.pointer (some (a.add off))) w := by
  intro f off h a w
  rcases f with _ | f <;> simp at h <;> subst h <;> go_simp
theorem ty_fo26 : ∀ f off, ([0, 1, 2, 3, 4, 5] : List Nat)[f]? = some off → ∀ a w, (Instr.fieldAt 26 (.pointer (some a)) f).run Tryd.prog w = .ok (.pointer (some (a.add off))) w := by
  intro f off h a w
  rcases f with _ | _ | _ | _ | _ | _ | f <;> simp at h <;> subst h <;> go_simp
theorem ty_fo27 : ∀ f off, ([0, 1, 2, 3, 4, 5] : List Nat)[f]? = some off → ∀ a w, (Instr.fieldAt 27 (.pointer (some a)) f).run Tryd.prog w = .ok (.pointer (some (a.add off))) w := by
  intro f off h a w
  rcases f with _ | _ | _ | _ | _ | _ | f <;> simp at h <;> subst h <;> go_simp
theorem ty_fo49 : ∀ f off, ([0, 1, 2] : List Nat)[f]? = some off → ∀ a w, (Instr.fieldAt 49 (.pointer (some a)) f).run Tryd.prog w = .ok (.pointer (some (a.add off))) w := by
  intro f off h a w
  rcases f with _ | _ | _ | f <;> simp at h <;> subst h <;> go_simp
theorem ty_fo50 : ∀ f off, ([0, 1, 2] : List Nat)[f]? = some off → ∀ a w, (Instr.fieldAt 50 (.pointer (some a)) f).run Tryd.prog w = .ok (.pointer (some (a.add off))) w := by
  intro f off h a w
  rcases f with _ | _ | _ | f <;> simp at h <;> subst h <;> go_simp
theorem ty_fo51 : ∀ f off, ([0, 1, 2, 3] : List Nat)[f]? = some off → ∀ a w, (Instr.fieldAt 51 (.pointer (some a)) f).run Tryd.prog w = .ok (.pointer (some (a.add off))) w := by
  intro f off h a w
  rcases f with _ | _ | _ | _ | f <;> simp at h <;> subst h <;> go_simp
theorem ty_fo52 : ∀ f off, ([0, 1, 2, 3] : List Nat)[f]? = some off → ∀ a w, (Instr.fieldAt 52 (.pointer (some a)) f).run Tryd.prog w = .ok (.pointer (some (a.add off))) w := by
  intro f off h a w
  rcases f with _ | _ | _ | _ | f <;> simp at h <;> subst h <;> go_simp
theorem ty_fo53 : ∀ f off, ([0, 1, 2, 3] : List Nat)[f]? = some off → ∀ a w, (Instr.fieldAt 53 (.pointer (some a)) f).run Tryd.prog w = .ok (.pointer (some (a.add off))) w := by
  intro f off h a w
  rcases f with _ | _ | _ | _ | f <;> simp at h <;> subst h <;> go_simp
theorem ty_fo54 : ∀ f off, ([0, 1, 2, 3] : List Nat)[f]? = some off → ∀ a w, (Instr.fieldAt 54 (.pointer (some a)) f).run Tryd.prog w = .ok (.pointer (some (a.add off))) w := by
  intro f off h a w
  rcases f with _ | _ | _ | _ | f <;> simp at h <;> subst h <;> go_simp
theorem ty_fo90 : ∀ f off, ([0, 1] : List Nat)[f]? = some off → ∀ a w, (Instr.fieldAt 90 (.pointer (some a)) f).run Tryd.prog w = .ok (.pointer (some (a.add off))) w := by
  intro f off h a w
  rcases f with _ | _ | f <;> simp at h <;> subst h <;> go_simp
theorem ty_fo91 : ∀ f off, ([0, 1] : List Nat)[f]? = some off → ∀ a w, (Instr.fieldAt 91 (.pointer (some a)) f).run Tryd.prog w = .ok (.pointer (some (a.add off))) w := by
  intro f off h a w
  rcases f with _ | _ | f <;> simp at h <;> subst h <;> go_simp
theorem ty_fo112 : ∀ f off, ([0, 3] : List Nat)[f]? = some off → ∀ a w, (Instr.fieldAt 112 (.pointer (some a)) f).run Tryd.prog w = .ok (.pointer (some (a.add off))) w := by
  intro f off h a w
  rcases f with _ | _ | f <;> simp at h <;> subst h <;> go_simp
theorem ty_fo113 : ∀ f off, ([0, 3] : List Nat)[f]? = some off → ∀ a w, (Instr.fieldAt 113 (.pointer (some a)) f).run Tryd.prog w = .ok (.pointer (some (a.add off))) w := by
  intro f off h a w
  rcases f with _ | _ | f <;> simp at h <;> subst h <;> go_simp
theorem ty_fo149 : ∀ f off, ([0, 1, 2, 3] : List Nat)[f]? = some off → ∀ a w, (Instr.fieldAt 149 (.pointer (some a)) f).run Tryd.prog w = .ok (.pointer (some (a.add off))) w := by
  intro f off h a w
  rcases f with _ | _ | _ | _ | f <;> simp at h <;> subst h <;> go_simp
theorem ty_fo150 : ∀ f off, ([0, 1, 2, 3] : List Nat)[f]? = some off → ∀ a w, (Instr.fieldAt 150 (.pointer (some a)) f).run Tryd.prog w = .ok (.pointer (some (a.add off))) w := by
  intro f off h a w
  rcases f with _ | _ | _ | _ | f <;> simp at h <;> subst h <;> go_simp
theorem ty_fo161 : ∀ f off, ([0, 1, 2, 3, 4, 5, 6, 7, 8, 9, 10] : List Nat)[f]? = some off → ∀ a w, (Instr.fieldAt 161 (.pointer (some a)) f).run Tryd.prog w = .ok (.pointer (some (a.add off))) w := by
  intro f off h a w
  rcases f with _ | _ | _ | _ | _ | _ | _ | _ | _ | _ | _ | f <;> simp at h <;> subst h <;> go_simp
theorem ty_fo162 : ∀ f off, ([0, 1, 2, 3, 4, 5, 6, 7, 8, 9, 10] : List Nat)[f]? = some off → ∀ a w, (Instr.fieldAt 162 (.pointer (some a)) f).run Tryd.prog w = .ok (.pointer (some (a.add off))) w := by
  intro f off h a w
  rcases f with _ | _ | _ | _ | _ | _ | _ | _ | _ | _ | _ | f <;> simp at h <;> subst h <;> go_simp
set_option maxRecDepth 10000 in
theorem ty_hfo : ∀ p ∈ ty_fo, ∀ f off, p.2[f]? = some off → ∀ a w, (Instr.fieldAt p.1 (.pointer (some a)) f).run Tryd.prog w = .ok (.pointer (some (a.add off))) w := by
  unfold ty_fo
  simp only [List.mem_cons, List.not_mem_nil, or_false, forall_eq_or_imp, forall_eq]
  exact ⟨ty_fo7,
    ty_fo8,
    ty_fo13,
    ty_fo14,
    ty_fo18,
    ty_fo19,
    ty_fo26,
    ty_fo27,
    ty_fo49,
    ty_fo50,
    ty_fo51,
    ty_fo52,
    ty_fo53,
    ty_fo54,
    ty_fo90,
    ty_fo91,
    ty_fo112,
    ty_fo113,
    ty_fo149,
    ty_fo150,
    ty_fo161,
    ty_fo162⟩
set_option maxRecDepth 10000 in
theorem ty_hel : ∀ p ∈ ty_el, Tryd.prog.underlying p.1 = some (.slice p.2) := by
  unfold ty_el
  simp only [List.mem_cons, List.not_mem_nil, or_false, forall_eq_or_imp, forall_eq]
  exact ⟨Tryd.underlying22,
    Tryd.underlying23,
    Tryd.underlying24,
    Tryd.underlying33,
    Tryd.underlying48,
    Tryd.underlying69⟩
set_option maxRecDepth 10000 in
theorem ty_hik : ∀ p ∈ ty_ik, Tryd.prog.underlying p.1 = some (.int p.2) := by
  unfold ty_ik
  simp only [List.mem_cons, List.not_mem_nil, or_false, forall_eq_or_imp, forall_eq]
  exact ⟨Tryd.underlying2,
    Tryd.underlying3,
    Tryd.underlying5,
    Tryd.underlying6,
    Tryd.underlying12,
    Tryd.underlying21,
    Tryd.underlying28,
    Tryd.underlying59,
    Tryd.underlying71,
    Tryd.underlying126,
    Tryd.underlying129,
    Tryd.underlying138,
    Tryd.underlying139,
    Tryd.underlying155,
    Tryd.underlying156,
    Tryd.underlying159,
    Tryd.underlying160⟩
set_option maxRecDepth 10000 in
theorem ty_hmp : ∀ p ∈ ty_mp, Tryd.prog.underlying p.1 = some (.map p.2.1 p.2.2) := by
  unfold ty_mp
  simp only [List.mem_cons, List.not_mem_nil, or_false, forall_eq_or_imp, forall_eq]
  exact ⟨Tryd.underlying62,
    Tryd.underlying77,
    Tryd.underlying80⟩
theorem ty_mixed : Tryd.prog.follows .mixedOrders = true := by kernel_rfl
def ty_inf : List (Nat × Value × Nat × Nat) := [(3, (.int .i64 0), 1, 8), (4, (.bool false), 1, 1), (33, (.slice none 0 0), 1, 24), (50, (.agg #[(.int .i64 0), (.int .u8 0), (.slice none 0 0)]), 3, 40), (52, (.agg #[(.int .i64 0), (.int .i64 0), (.int .i64 0), (.int .u8 0)]), 4, 32), (54, (.agg #[(.int .i64 0), (.int .i64 0), (.int .u8 0), (.int .i64 0)]), 4, 32)]
set_option maxRecDepth 10000 in
theorem ty_hinf : ∀ p ∈ ty_inf, (Tryd.prog.info? p.1).map (fun i => (i.zero, i.size, i.bytes)) = some (some p.2.1, p.2.2.1, p.2.2.2) := by
  unfold ty_inf
  simp only [List.mem_cons, List.not_mem_nil, or_false, forall_eq_or_imp, forall_eq]
  exact ⟨(by kernel_rfl),
    (by kernel_rfl),
    (by kernel_rfl),
    (by kernel_rfl),
    (by kernel_rfl),
    (by kernel_rfl)⟩
def T_ : Tys Tryd.prog := ⟨ty_mixed, ty_tk, ty_htk, ty_zs, ty_hzs, ty_fo, ty_hfo, ty_el, ty_hel, ty_ik, ty_hik, ty_mp, ty_hmp⟩
def TR_ : TysR Tryd.prog := { T_ with inf := ty_inf, hinf := ty_hinf }
theorem ty_bl7 : ∀ (parts : Array (Nat × Value)) (cs : Array Value) (w : World), Instr.fill (fun i => ([(0, 1), (1, 1), (2, 1), (3, 1)] : List (Nat × Nat))[i]?) #[(.int .i64 0), (.int .i64 0), (.bool false), (.int .u8 0)] parts.toList = some cs → (Instr.build 7 parts).run Tryd.prog w = .ok (.agg cs) w := by
  intro parts cs w h
  unfold Instr.build
  have hz : (zeroValue 7).run Tryd.prog w = .ok (.agg #[(.int .i64 0), (.int .i64 0), (.bool false), (.int .u8 0)]) w := ty_hzs (7, .agg #[(.int .i64 0), (.int .i64 0), (.bool false), (.int .u8 0)]) (look_mem (l := ty_zs) rfl) w
  have hu := run_underlying Tryd.underlying7 w
  simp only [Sem.run_bind, hz, hu, Result.andThen_ok, Value.cells]
  simp [Array.mapM_eq_foldlM]
  rw [h]
  rfl
theorem ty_bl8 : ∀ (parts : Array (Nat × Value)) (cs : Array Value) (w : World), Instr.fill (fun i => ([(0, 1), (1, 1), (2, 1), (3, 1)] : List (Nat × Nat))[i]?) #[(.int .i64 0), (.int .i64 0), (.bool false), (.int .u8 0)] parts.toList = some cs → (Instr.build 8 parts).run Tryd.prog w = .ok (.agg cs) w := by
  intro parts cs w h
  unfold Instr.build
  have hz : (zeroValue 8).run Tryd.prog w = .ok (.agg #[(.int .i64 0), (.int .i64 0), (.bool false), (.int .u8 0)]) w := ty_hzs (8, .agg #[(.int .i64 0), (.int .i64 0), (.bool false), (.int .u8 0)]) (look_mem (l := ty_zs) rfl) w
  have hu := run_underlying Tryd.underlying8 w
  simp only [Sem.run_bind, hz, hu, Result.andThen_ok, Value.cells]
  simp [Array.mapM_eq_foldlM]
  rw [h]
  rfl
theorem ty_bl13 : ∀ (parts : Array (Nat × Value)) (cs : Array Value) (w : World), Instr.fill (fun i => ([(0, 1), (1, 1)] : List (Nat × Nat))[i]?) #[(.string ⟨#[]⟩), (.int .u64 0)] parts.toList = some cs → (Instr.build 13 parts).run Tryd.prog w = .ok (.agg cs) w := by
  intro parts cs w h
  unfold Instr.build
  have hz : (zeroValue 13).run Tryd.prog w = .ok (.agg #[(.string ⟨#[]⟩), (.int .u64 0)]) w := ty_hzs (13, .agg #[(.string ⟨#[]⟩), (.int .u64 0)]) (look_mem (l := ty_zs) rfl) w
  have hu := run_underlying Tryd.underlying13 w
  simp only [Sem.run_bind, hz, hu, Result.andThen_ok, Value.cells]
  simp [Array.mapM_eq_foldlM]
  rw [h]
  rfl
theorem ty_bl14 : ∀ (parts : Array (Nat × Value)) (cs : Array Value) (w : World), Instr.fill (fun i => ([(0, 1), (1, 1)] : List (Nat × Nat))[i]?) #[(.string ⟨#[]⟩), (.int .u64 0)] parts.toList = some cs → (Instr.build 14 parts).run Tryd.prog w = .ok (.agg cs) w := by
  intro parts cs w h
  unfold Instr.build
  have hz : (zeroValue 14).run Tryd.prog w = .ok (.agg #[(.string ⟨#[]⟩), (.int .u64 0)]) w := ty_hzs (14, .agg #[(.string ⟨#[]⟩), (.int .u64 0)]) (look_mem (l := ty_zs) rfl) w
  have hu := run_underlying Tryd.underlying14 w
  simp only [Sem.run_bind, hz, hu, Result.andThen_ok, Value.cells]
  simp [Array.mapM_eq_foldlM]
  rw [h]
  rfl
theorem ty_bl18 : ∀ (parts : Array (Nat × Value)) (cs : Array Value) (w : World), Instr.fill (fun i => ([(0, 1)] : List (Nat × Nat))[i]?) #[(.pointer none)] parts.toList = some cs → (Instr.build 18 parts).run Tryd.prog w = .ok (.agg cs) w := by
  intro parts cs w h
  unfold Instr.build
  have hz : (zeroValue 18).run Tryd.prog w = .ok (.agg #[(.pointer none)]) w := ty_hzs (18, .agg #[(.pointer none)]) (look_mem (l := ty_zs) rfl) w
  have hu := run_underlying Tryd.underlying18 w
  simp only [Sem.run_bind, hz, hu, Result.andThen_ok, Value.cells]
  simp [Array.mapM_eq_foldlM]
  rw [h]
  rfl
theorem ty_bl19 : ∀ (parts : Array (Nat × Value)) (cs : Array Value) (w : World), Instr.fill (fun i => ([(0, 1)] : List (Nat × Nat))[i]?) #[(.pointer none)] parts.toList = some cs → (Instr.build 19 parts).run Tryd.prog w = .ok (.agg cs) w := by
  intro parts cs w h
  unfold Instr.build
  have hz : (zeroValue 19).run Tryd.prog w = .ok (.agg #[(.pointer none)]) w := ty_hzs (19, .agg #[(.pointer none)]) (look_mem (l := ty_zs) rfl) w
  have hu := run_underlying Tryd.underlying19 w
  simp only [Sem.run_bind, hz, hu, Result.andThen_ok, Value.cells]
  simp [Array.mapM_eq_foldlM]
  rw [h]
  rfl
theorem ty_bl26 : ∀ (parts : Array (Nat × Value)) (cs : Array Value) (w : World), Instr.fill (fun i => ([(0, 1), (1, 1), (2, 1), (3, 1), (4, 1), (5, 1)] : List (Nat × Nat))[i]?) #[(.int .i64 0), (.int .i64 0), (.int .i64 0), (.int .i64 0), (.int .i64 0), (.int .i64 0)] parts.toList = some cs → (Instr.build 26 parts).run Tryd.prog w = .ok (.agg cs) w := by
  intro parts cs w h
  unfold Instr.build
  have hz : (zeroValue 26).run Tryd.prog w = .ok (.agg #[(.int .i64 0), (.int .i64 0), (.int .i64 0), (.int .i64 0), (.int .i64 0), (.int .i64 0)]) w := ty_hzs (26, .agg #[(.int .i64 0), (.int .i64 0), (.int .i64 0), (.int .i64 0), (.int .i64 0), (.int .i64 0)]) (look_mem (l := ty_zs) rfl) w
  have hu := run_underlying Tryd.underlying26 w
  simp only [Sem.run_bind, hz, hu, Result.andThen_ok, Value.cells]
  simp [Array.mapM_eq_foldlM]
  rw [h]
  rfl
theorem ty_bl27 : ∀ (parts : Array (Nat × Value)) (cs : Array Value) (w : World), Instr.fill (fun i => ([(0, 1), (1, 1), (2, 1), (3, 1), (4, 1), (5, 1)] : List (Nat × Nat))[i]?) #[(.int .i64 0), (.int .i64 0), (.int .i64 0), (.int .i64 0), (.int .i64 0), (.int .i64 0)] parts.toList = some cs → (Instr.build 27 parts).run Tryd.prog w = .ok (.agg cs) w := by
  intro parts cs w h
  unfold Instr.build
  have hz : (zeroValue 27).run Tryd.prog w = .ok (.agg #[(.int .i64 0), (.int .i64 0), (.int .i64 0), (.int .i64 0), (.int .i64 0), (.int .i64 0)]) w := ty_hzs (27, .agg #[(.int .i64 0), (.int .i64 0), (.int .i64 0), (.int .i64 0), (.int .i64 0), (.int .i64 0)]) (look_mem (l := ty_zs) rfl) w
  have hu := run_underlying Tryd.underlying27 w
  simp only [Sem.run_bind, hz, hu, Result.andThen_ok, Value.cells]
  simp [Array.mapM_eq_foldlM]
  rw [h]
  rfl
theorem ty_bl49 : ∀ (parts : Array (Nat × Value)) (cs : Array Value) (w : World), Instr.fill (fun i => ([(0, 1), (1, 1), (2, 1)] : List (Nat × Nat))[i]?) #[(.int .i64 0), (.int .u8 0), (.slice none 0 0)] parts.toList = some cs → (Instr.build 49 parts).run Tryd.prog w = .ok (.agg cs) w := by
  intro parts cs w h
  unfold Instr.build
  have hz : (zeroValue 49).run Tryd.prog w = .ok (.agg #[(.int .i64 0), (.int .u8 0), (.slice none 0 0)]) w := ty_hzs (49, .agg #[(.int .i64 0), (.int .u8 0), (.slice none 0 0)]) (look_mem (l := ty_zs) rfl) w
  have hu := run_underlying Tryd.underlying49 w
  simp only [Sem.run_bind, hz, hu, Result.andThen_ok, Value.cells]
  simp [Array.mapM_eq_foldlM]
  rw [h]
  rfl
theorem ty_bl50 : ∀ (parts : Array (Nat × Value)) (cs : Array Value) (w : World), Instr.fill (fun i => ([(0, 1), (1, 1), (2, 1)] : List (Nat × Nat))[i]?) #[(.int .i64 0), (.int .u8 0), (.slice none 0 0)] parts.toList = some cs → (Instr.build 50 parts).run Tryd.prog w = .ok (.agg cs) w := by
  intro parts cs w h
  unfold Instr.build
  have hz : (zeroValue 50).run Tryd.prog w = .ok (.agg #[(.int .i64 0), (.int .u8 0), (.slice none 0 0)]) w := ty_hzs (50, .agg #[(.int .i64 0), (.int .u8 0), (.slice none 0 0)]) (look_mem (l := ty_zs) rfl) w
  have hu := run_underlying Tryd.underlying50 w
  simp only [Sem.run_bind, hz, hu, Result.andThen_ok, Value.cells]
  simp [Array.mapM_eq_foldlM]
  rw [h]
  rfl
theorem ty_bl51 : ∀ (parts : Array (Nat × Value)) (cs : Array Value) (w : World), Instr.fill (fun i => ([(0, 1), (1, 1), (2, 1), (3, 1)] : List (Nat × Nat))[i]?) #[(.int .i64 0), (.int .i64 0), (.int .i64 0), (.int .u8 0)] parts.toList = some cs → (Instr.build 51 parts).run Tryd.prog w = .ok (.agg cs) w := by
  intro parts cs w h
  unfold Instr.build
  have hz : (zeroValue 51).run Tryd.prog w = .ok (.agg #[(.int .i64 0), (.int .i64 0), (.int .i64 0), (.int .u8 0)]) w := ty_hzs (51, .agg #[(.int .i64 0), (.int .i64 0), (.int .i64 0), (.int .u8 0)]) (look_mem (l := ty_zs) rfl) w
  have hu := run_underlying Tryd.underlying51 w
  simp only [Sem.run_bind, hz, hu, Result.andThen_ok, Value.cells]
  simp [Array.mapM_eq_foldlM]
  rw [h]
  rfl
theorem ty_bl52 : ∀ (parts : Array (Nat × Value)) (cs : Array Value) (w : World), Instr.fill (fun i => ([(0, 1), (1, 1), (2, 1), (3, 1)] : List (Nat × Nat))[i]?) #[(.int .i64 0), (.int .i64 0), (.int .i64 0), (.int .u8 0)] parts.toList = some cs → (Instr.build 52 parts).run Tryd.prog w = .ok (.agg cs) w := by
  intro parts cs w h
  unfold Instr.build
  have hz : (zeroValue 52).run Tryd.prog w = .ok (.agg #[(.int .i64 0), (.int .i64 0), (.int .i64 0), (.int .u8 0)]) w := ty_hzs (52, .agg #[(.int .i64 0), (.int .i64 0), (.int .i64 0), (.int .u8 0)]) (look_mem (l := ty_zs) rfl) w
  have hu := run_underlying Tryd.underlying52 w
  simp only [Sem.run_bind, hz, hu, Result.andThen_ok, Value.cells]
  simp [Array.mapM_eq_foldlM]
  rw [h]
  rfl
theorem ty_bl53 : ∀ (parts : Array (Nat × Value)) (cs : Array Value) (w : World), Instr.fill (fun i => ([(0, 1), (1, 1), (2, 1), (3, 1)] : List (Nat × Nat))[i]?) #[(.int .i64 0), (.int .i64 0), (.int .u8 0), (.int .i64 0)] parts.toList = some cs → (Instr.build 53 parts).run Tryd.prog w = .ok (.agg cs) w := by
  intro parts cs w h
  unfold Instr.build
  have hz : (zeroValue 53).run Tryd.prog w = .ok (.agg #[(.int .i64 0), (.int .i64 0), (.int .u8 0), (.int .i64 0)]) w := ty_hzs (53, .agg #[(.int .i64 0), (.int .i64 0), (.int .u8 0), (.int .i64 0)]) (look_mem (l := ty_zs) rfl) w
  have hu := run_underlying Tryd.underlying53 w
  simp only [Sem.run_bind, hz, hu, Result.andThen_ok, Value.cells]
  simp [Array.mapM_eq_foldlM]
  rw [h]
  rfl
theorem ty_bl54 : ∀ (parts : Array (Nat × Value)) (cs : Array Value) (w : World), Instr.fill (fun i => ([(0, 1), (1, 1), (2, 1), (3, 1)] : List (Nat × Nat))[i]?) #[(.int .i64 0), (.int .i64 0), (.int .u8 0), (.int .i64 0)] parts.toList = some cs → (Instr.build 54 parts).run Tryd.prog w = .ok (.agg cs) w := by
  intro parts cs w h
  unfold Instr.build
  have hz : (zeroValue 54).run Tryd.prog w = .ok (.agg #[(.int .i64 0), (.int .i64 0), (.int .u8 0), (.int .i64 0)]) w := ty_hzs (54, .agg #[(.int .i64 0), (.int .i64 0), (.int .u8 0), (.int .i64 0)]) (look_mem (l := ty_zs) rfl) w
  have hu := run_underlying Tryd.underlying54 w
  simp only [Sem.run_bind, hz, hu, Result.andThen_ok, Value.cells]
  simp [Array.mapM_eq_foldlM]
  rw [h]
  rfl
theorem ty_bl90 : ∀ (parts : Array (Nat × Value)) (cs : Array Value) (w : World), Instr.fill (fun i => ([(0, 1), (1, 1)] : List (Nat × Nat))[i]?) #[(.slice none 0 0), (.map none)] parts.toList = some cs → (Instr.build 90 parts).run Tryd.prog w = .ok (.agg cs) w := by
  intro parts cs w h
  unfold Instr.build
  have hz : (zeroValue 90).run Tryd.prog w = .ok (.agg #[(.slice none 0 0), (.map none)]) w := ty_hzs (90, .agg #[(.slice none 0 0), (.map none)]) (look_mem (l := ty_zs) rfl) w
  have hu := run_underlying Tryd.underlying90 w
  simp only [Sem.run_bind, hz, hu, Result.andThen_ok, Value.cells]
  simp [Array.mapM_eq_foldlM]
  rw [h]
  rfl
theorem ty_bl91 : ∀ (parts : Array (Nat × Value)) (cs : Array Value) (w : World), Instr.fill (fun i => ([(0, 1), (1, 1)] : List (Nat × Nat))[i]?) #[(.slice none 0 0), (.map none)] parts.toList = some cs → (Instr.build 91 parts).run Tryd.prog w = .ok (.agg cs) w := by
  intro parts cs w h
  unfold Instr.build
  have hz : (zeroValue 91).run Tryd.prog w = .ok (.agg #[(.slice none 0 0), (.map none)]) w := ty_hzs (91, .agg #[(.slice none 0 0), (.map none)]) (look_mem (l := ty_zs) rfl) w
  have hu := run_underlying Tryd.underlying91 w
  simp only [Sem.run_bind, hz, hu, Result.andThen_ok, Value.cells]
  simp [Array.mapM_eq_foldlM]
  rw [h]
  rfl
theorem ty_bl112 : ∀ (parts : Array (Nat × Value)) (cs : Array Value) (w : World), Instr.fill (fun i => ([(0, 3), (3, 1)] : List (Nat × Nat))[i]?) #[(.int .i64 0), (.int .u8 0), (.slice none 0 0), (.map none)] parts.toList = some cs → (Instr.build 112 parts).run Tryd.prog w = .ok (.agg cs) w := by
  intro parts cs w h
  unfold Instr.build
  have hz : (zeroValue 112).run Tryd.prog w = .ok (.agg #[(.int .i64 0), (.int .u8 0), (.slice none 0 0), (.map none)]) w := ty_hzs (112, .agg #[(.int .i64 0), (.int .u8 0), (.slice none 0 0), (.map none)]) (look_mem (l := ty_zs) rfl) w
  have hu := run_underlying Tryd.underlying112 w
  simp only [Sem.run_bind, hz, hu, Result.andThen_ok, Value.cells]
  simp [Array.mapM_eq_foldlM]
  rw [h]
  rfl
theorem ty_bl113 : ∀ (parts : Array (Nat × Value)) (cs : Array Value) (w : World), Instr.fill (fun i => ([(0, 3), (3, 1)] : List (Nat × Nat))[i]?) #[(.int .i64 0), (.int .u8 0), (.slice none 0 0), (.map none)] parts.toList = some cs → (Instr.build 113 parts).run Tryd.prog w = .ok (.agg cs) w := by
  intro parts cs w h
  unfold Instr.build
  have hz : (zeroValue 113).run Tryd.prog w = .ok (.agg #[(.int .i64 0), (.int .u8 0), (.slice none 0 0), (.map none)]) w := ty_hzs (113, .agg #[(.int .i64 0), (.int .u8 0), (.slice none 0 0), (.map none)]) (look_mem (l := ty_zs) rfl) w
  have hu := run_underlying Tryd.underlying113 w
  simp only [Sem.run_bind, hz, hu, Result.andThen_ok, Value.cells]
  simp [Array.mapM_eq_foldlM]
  rw [h]
  rfl
theorem ty_bl149 : ∀ (parts : Array (Nat × Value)) (cs : Array Value) (w : World), Instr.fill (fun i => ([(0, 1), (1, 1), (2, 1), (3, 1)] : List (Nat × Nat))[i]?) #[(.pointer none), (.pointer none), (.pointer none), (.string ⟨#[]⟩)] parts.toList = some cs → (Instr.build 149 parts).run Tryd.prog w = .ok (.agg cs) w := by
  intro parts cs w h
  unfold Instr.build
  have hz : (zeroValue 149).run Tryd.prog w = .ok (.agg #[(.pointer none), (.pointer none), (.pointer none), (.string ⟨#[]⟩)]) w := ty_hzs (149, .agg #[(.pointer none), (.pointer none), (.pointer none), (.string ⟨#[]⟩)]) (look_mem (l := ty_zs) rfl) w
  have hu := run_underlying Tryd.underlying149 w
  simp only [Sem.run_bind, hz, hu, Result.andThen_ok, Value.cells]
  simp [Array.mapM_eq_foldlM]
  rw [h]
  rfl
theorem ty_bl150 : ∀ (parts : Array (Nat × Value)) (cs : Array Value) (w : World), Instr.fill (fun i => ([(0, 1), (1, 1), (2, 1), (3, 1)] : List (Nat × Nat))[i]?) #[(.pointer none), (.pointer none), (.pointer none), (.string ⟨#[]⟩)] parts.toList = some cs → (Instr.build 150 parts).run Tryd.prog w = .ok (.agg cs) w := by
  intro parts cs w h
  unfold Instr.build
  have hz : (zeroValue 150).run Tryd.prog w = .ok (.agg #[(.pointer none), (.pointer none), (.pointer none), (.string ⟨#[]⟩)]) w := ty_hzs (150, .agg #[(.pointer none), (.pointer none), (.pointer none), (.string ⟨#[]⟩)]) (look_mem (l := ty_zs) rfl) w
  have hu := run_underlying Tryd.underlying150 w
  simp only [Sem.run_bind, hz, hu, Result.andThen_ok, Value.cells]
  simp [Array.mapM_eq_foldlM]
  rw [h]
  rfl
theorem ty_bl161 : ∀ (parts : Array (Nat × Value)) (cs : Array Value) (w : World), Instr.fill (fun i => ([(0, 1), (1, 1), (2, 1), (3, 1), (4, 1), (5, 1), (6, 1), (7, 1), (8, 1), (9, 1), (10, 1)] : List (Nat × Nat))[i]?) #[(.int .u64 0), (.int .u64 0), (.int .u32 0), (.int .u8 0), (.int .u8 0), (.int .u8 0), (.int .u8 0), .nilFunc, (.pointer none), (.int .i32 0), (.int .i32 0)] parts.toList = some cs → (Instr.build 161 parts).run Tryd.prog w = .ok (.agg cs) w := by
  intro parts cs w h
  unfold Instr.build
  have hz : (zeroValue 161).run Tryd.prog w = .ok (.agg #[(.int .u64 0), (.int .u64 0), (.int .u32 0), (.int .u8 0), (.int .u8 0), (.int .u8 0), (.int .u8 0), .nilFunc, (.pointer none), (.int .i32 0), (.int .i32 0)]) w := ty_hzs (161, .agg #[(.int .u64 0), (.int .u64 0), (.int .u32 0), (.int .u8 0), (.int .u8 0), (.int .u8 0), (.int .u8 0), .nilFunc, (.pointer none), (.int .i32 0), (.int .i32 0)]) (look_mem (l := ty_zs) rfl) w
  have hu := run_underlying Tryd.underlying161 w
  simp only [Sem.run_bind, hz, hu, Result.andThen_ok, Value.cells]
  simp [Array.mapM_eq_foldlM]
  rw [h]
  rfl
theorem ty_bl162 : ∀ (parts : Array (Nat × Value)) (cs : Array Value) (w : World), Instr.fill (fun i => ([(0, 1), (1, 1), (2, 1), (3, 1), (4, 1), (5, 1), (6, 1), (7, 1), (8, 1), (9, 1), (10, 1)] : List (Nat × Nat))[i]?) #[(.int .u64 0), (.int .u64 0), (.int .u32 0), (.int .u8 0), (.int .u8 0), (.int .u8 0), (.int .u8 0), .nilFunc, (.pointer none), (.int .i32 0), (.int .i32 0)] parts.toList = some cs → (Instr.build 162 parts).run Tryd.prog w = .ok (.agg cs) w := by
  intro parts cs w h
  unfold Instr.build
  have hz : (zeroValue 162).run Tryd.prog w = .ok (.agg #[(.int .u64 0), (.int .u64 0), (.int .u32 0), (.int .u8 0), (.int .u8 0), (.int .u8 0), (.int .u8 0), .nilFunc, (.pointer none), (.int .i32 0), (.int .i32 0)]) w := ty_hzs (162, .agg #[(.int .u64 0), (.int .u64 0), (.int .u32 0), (.int .u8 0), (.int .u8 0), (.int .u8 0), (.int .u8 0), .nilFunc, (.pointer none), (.int .i32 0), (.int .i32 0)]) (look_mem (l := ty_zs) rfl) w
  have hu := run_underlying Tryd.underlying162 w
  simp only [Sem.run_bind, hz, hu, Result.andThen_ok, Value.cells]
  simp [Array.mapM_eq_foldlM]
  rw [h]
  rfl
def ty_bl : List (Nat × List (Nat × Nat) × Array Value) := [(7, [(0, 1), (1, 1), (2, 1), (3, 1)], #[(.int .i64 0), (.int .i64 0), (.bool false), (.int .u8 0)]), (8, [(0, 1), (1, 1), (2, 1), (3, 1)], #[(.int .i64 0), (.int .i64 0), (.bool false), (.int .u8 0)]), (13, [(0, 1), (1, 1)], #[(.string ⟨#[]⟩), (.int .u64 0)]), (14, [(0, 1), (1, 1)], #[(.string ⟨#[]⟩), (.int .u64 0)]), (18, [(0, 1)], #[(.pointer none)]), (19, [(0, 1)], #[(.pointer none)]), (26, [(0, 1), (1, 1), (2, 1), (3, 1), (4, 1), (5, 1)], #[(.int .i64 0), (.int .i64 0), (.int .i64 0), (.int .i64 0), (.int .i64 0), (.int .i64 0)]), (27, [(0, 1), (1, 1), (2, 1), (3, 1), (4, 1), (5, 1)], #[(.int .i64 0), (.int .i64 0), (.int .i64 0), (.int .i64 0), (.int .i64 0), (.int .i64 0)]), (49, [(0, 1), (1, 1), (2, 1)], #[(.int .i64 0), (.int .u8 0), (.slice none 0 0)]), (50, [(0, 1), (1, 1), (2, 1)], #[(.int .i64 0), (.int .u8 0), (.slice none 0 0)]), (51, [(0, 1), (1, 1), (2, 1), (3, 1)], #[(.int .i64 0), (.int .i64 0), (.int .i64 0), (.int .u8 0)]), (52, [(0, 1), (1, 1), (2, 1), (3, 1)], #[(.int .i64 0), (.int .i64 0), (.int .i64 0), (.int .u8 0)]), (53, [(0, 1), (1, 1), (2, 1), (3, 1)], #[(.int .i64 0), (.int .i64 0), (.int .u8 0), (.int .i64 0)]), (54, [(0, 1), (1, 1), (2, 1), (3, 1)], #[(.int .i64 0), (.int .i64 0), (.int .u8 0), (.int .i64 0)]), (90, [(0, 1), (1, 1)], #[(.slice none 0 0), (.map none)]), (91, [(0, 1), (1, 1)], #[(.slice none 0 0), (.map none)]), (112, [(0, 3), (3, 1)], #[(.int .i64 0), (.int .u8 0), (.slice none 0 0), (.map none)]), (113, [(0, 3), (3, 1)], #[(.int .i64 0), (.int .u8 0), (.slice none 0 0), (.map none)]), (149, [(0, 1), (1, 1), (2, 1), (3, 1)], #[(.pointer none), (.pointer none), (.pointer none), (.string ⟨#[]⟩)]), (150, [(0, 1), (1, 1), (2, 1), (3, 1)], #[(.pointer none), (.pointer none), (.pointer none), (.string ⟨#[]⟩)]), (161, [(0, 1), (1, 1), (2, 1), (3, 1), (4, 1), (5, 1), (6, 1), (7, 1), (8, 1), (9, 1), (10, 1)], #[(.int .u64 0), (.int .u64 0), (.int .u32 0), (.int .u8 0), (.int .u8 0), (.int .u8 0), (.int .u8 0), .nilFunc, (.pointer none), (.int .i32 0), (.int .i32 0)]), (162, [(0, 1), (1, 1), (2, 1), (3, 1), (4, 1), (5, 1), (6, 1), (7, 1), (8, 1), (9, 1), (10, 1)], #[(.int .u64 0), (.int .u64 0), (.int .u32 0), (.int .u8 0), (.int .u8 0), (.int .u8 0), (.int .u8 0), .nilFunc, (.pointer none), (.int .i32 0), (.int .i32 0)])]
set_option maxRecDepth 10000 in
theorem ty_hbl : ∀ p ∈ ty_bl, ∀ (parts : Array (Nat × Value)) (cs : Array Value) (w : World), Instr.fill (fun i => p.2.1[i]?) p.2.2 parts.toList = some cs → (Instr.build p.1 parts).run Tryd.prog w = .ok (.agg cs) w := by
  unfold ty_bl
  simp only [List.mem_cons, List.not_mem_nil, or_false, forall_eq_or_imp, forall_eq]
  exact ⟨ty_bl7,
    ty_bl8,
    ty_bl13,
    ty_bl14,
    ty_bl18,
    ty_bl19,
    ty_bl26,
    ty_bl27,
    ty_bl49,
    ty_bl50,
    ty_bl51,
    ty_bl52,
    ty_bl53,
    ty_bl54,
    ty_bl90,
    ty_bl91,
    ty_bl112,
    ty_bl113,
    ty_bl149,
    ty_bl150,
    ty_bl161,
    ty_bl162⟩
def TB_ : TysB Tryd.prog := { TR_ with bl := ty_bl, hbl := ty_hbl }
end Go.Proofs.YtcmepdamemnbkaaDoor
namespace Go.Proofs.YtcmepdamemnbkaaDoor
open Go.RowKit Go.Proofs.YtcmepdamemnbkaaDoorW.PrintWords
set_option linter.unusedVariables false
set_option linter.unusedSimpArgs false
/-! #### struct type 50 -/
structure S50 where
  f0 : Int
  f1 : Int
  f2 : (List (List Int))
def z50 : S50 := ⟨(0 : Int), (0 : Int), ([] : List (List Int))⟩
def k50 : Kd S50 := Kd.iso (Kd.pair (Kd.int .i64) (Kd.pair (Kd.int .u8) (Kd.slice 33 (Kd.slice 3 (Kd.int .i64))))) (fun x : S50 => (x.f0, x.f1, x.f2))
theorem k50_open {w : World} {x : S50} {cs : List Value} (h : k50.K w x cs) : ∃ A2 c2, cs = [.int .i64 x.f0, .int .u8 x.f1, .slice A2 x.f2.length c2] ∧ x.f2.length ≤ c2 ∧ (Kd.slice 3 (Kd.int .i64)).C w A2 x.f2.length x.f2 := by
  obtain ⟨_, _, rfl, rfl, ⟨_, _, rfl, rfl, ⟨A2, c2, rfl, l2, g2⟩⟩⟩ := h
  exact ⟨A2, c2, rfl, l2, g2⟩
theorem k50_mk (w : World) (x : S50) {A2 : Option Addr} {c2 : Nat} (l2 : x.f2.length ≤ c2) (g2 : (Kd.slice 3 (Kd.int .i64)).C w A2 x.f2.length x.f2) : k50.K w x [.int .i64 x.f0, .int .u8 x.f1, .slice A2 x.f2.length c2] := ⟨[.int .i64 x.f0], [.int .u8 x.f1, .slice A2 x.f2.length c2], rfl, rfl, ⟨[.int .u8 x.f1], [.slice A2 x.f2.length c2], rfl, rfl, ⟨A2, c2, rfl, l2, g2⟩⟩⟩
/-! #### struct type 52 -/
structure S52 where
  f0 : Int
  f1 : Int
  f2 : Int
  f3 : Int
def z52 : S52 := ⟨(0 : Int), (0 : Int), (0 : Int), (0 : Int)⟩
def k52 : Kd S52 := Kd.iso (Kd.pair (Kd.int .i64) (Kd.pair (Kd.int .i64) (Kd.pair (Kd.int .i64) (Kd.int .u8)))) (fun x : S52 => (x.f0, x.f1, x.f2, x.f3))
theorem k52_open {w : World} {x : S52} {cs : List Value} (h : k52.K w x cs) : cs = [.int .i64 x.f0, .int .i64 x.f1, .int .i64 x.f2, .int .u8 x.f3] := by
  obtain ⟨_, _, rfl, rfl, ⟨_, _, rfl, rfl, ⟨_, _, rfl, rfl, rfl⟩⟩⟩ := h
  exact rfl
theorem k52_mk (w : World) (x : S52)  : k52.K w x [.int .i64 x.f0, .int .i64 x.f1, .int .i64 x.f2, .int .u8 x.f3] := ⟨[.int .i64 x.f0], [.int .i64 x.f1, .int .i64 x.f2, .int .u8 x.f3], rfl, rfl, ⟨[.int .i64 x.f1], [.int .i64 x.f2, .int .u8 x.f3], rfl, rfl, ⟨[.int .i64 x.f2], [.int .u8 x.f3], rfl, rfl, rfl⟩⟩⟩
/-! #### struct type 54 -/
structure S54 where
  f0 : Int
  f1 : Int
  f2 : Int
  f3 : Int
def z54 : S54 := ⟨(0 : Int), (0 : Int), (0 : Int), (0 : Int)⟩
def k54 : Kd S54 := Kd.iso (Kd.pair (Kd.int .i64) (Kd.pair (Kd.int .i64) (Kd.pair (Kd.int .u8) (Kd.int .i64)))) (fun x : S54 => (x.f0, x.f1, x.f2, x.f3))
theorem k54_open {w : World} {x : S54} {cs : List Value} (h : k54.K w x cs) : cs = [.int .i64 x.f0, .int .i64 x.f1, .int .u8 x.f2, .int .i64 x.f3] := by
  obtain ⟨_, _, rfl, rfl, ⟨_, _, rfl, rfl, ⟨_, _, rfl, rfl, rfl⟩⟩⟩ := h
  exact rfl
theorem k54_mk (w : World) (x : S54)  : k54.K w x [.int .i64 x.f0, .int .i64 x.f1, .int .u8 x.f2, .int .i64 x.f3] := ⟨[.int .i64 x.f0], [.int .i64 x.f1, .int .u8 x.f2, .int .i64 x.f3], rfl, rfl, ⟨[.int .i64 x.f1], [.int .u8 x.f2, .int .i64 x.f3], rfl, rfl, ⟨[.int .u8 x.f2], [.int .i64 x.f3], rfl, rfl, rfl⟩⟩⟩
end Go.Proofs.YtcmepdamemnbkaaDoor
namespace Go.Proofs.YtcmepdamemnbkaaDoor
open Go.RowKit Go.Proofs.YtcmepdamemnbkaaDoorW.PrintWords
set_option linter.unusedVariables false
set_option linter.unusedSimpArgs false
theorem ro1 {w : World} {p : Addr} {v : Value} (h : w.cell? p = some v) : RO w XNone p [v] := fun j u hj => by
  cases j with
  | zero => simp at hj; subst hj; rw [Addr.add_zero']; exact ⟨h, fun x => x⟩
  | succ j => simp at hj
theorem int_at {w : World} {A : Option Addr} {n : Nat} {zs : List Int} (h : Kd.C (Kd.int .i64) w A n zs) (k : Nat) (hk : k < n) : ∃ ad, A = some ad ∧ RO w XNone (ad.add ((k : Int).toNat * szN 0)) [.int .i64 (zs.getD k 0)] := by
  obtain ⟨ad, e, hc⟩ := Kd.at_int h (k : Int) (by omega) (by omega)
  refine ⟨ad, e, ro1 ?_⟩
  have : (k : Int).toNat * szN 0 = (k : Int).toNat := by simp [szN]
  rw [this, hc]
  simp [rd]
theorem in1_calls (x lo hi : Int) (B C : Nat) (w : World) (hB : w.cell? ⟨B, 0, none⟩ = some (.int .i64 lo)) (hC : w.cell? ⟨C, 0, none⟩ = some (.int .i64 hi)) :
    Calls Tryd.prog 79 #[.int .i64 x, .pointer (some ⟨B, 0, none⟩), .pointer (some ⟨C, 0, none⟩)] w fun e w' => e = .returned (.bool (decide (x < lo) || decide (hi < x))) ∧ Below w.heap.size w w' := by
  have r1 := ro1 hB
  have r2 := ro1 hC
  refine x_calls (X := XNone) Tryd.func79 rfl rfl rfl ?_
  with_reducible repeat refine xc_seq ?_
  with_reducible refine xc_region ?_
  refine xo_asg rfl rfl rfl ?_
  with_reducible refine xo_nil ?_
  with_reducible repeat (first | refine xq_then ?_ | refine xq_blockN ?_ | refine xq_scopeN ?_)
  cases h : decide (x < lo)
  all_goals
    with_reducible repeat refine xc_seq ?_
    with_reducible refine xc_region ?_
    refine xo_mv rfl rfl rfl ?_
    refine xo_loadR0 T_ rfl rfl rfl (by first | assumption | exact RO.fld (by assumption) rfl) rfl ?_
    refine xo_lss rfl rfl rfl rfl ?_
    refine xo_mv rfl rfl rfl ?_
    refine xo_as (i := 8) rfl (congrArg Value.bool h) ?_
    first
      | refine xo_not rfl rfl ?_
      | (refine xo_mv rfl rfl rfl ?_)
    first
      | refine xo_not rfl rfl ?_
      | (refine xo_loadR0 T_ rfl rfl rfl (by first | assumption | exact RO.fld (by assumption) rfl) rfl ?_)
    first
      | refine xo_not rfl rfl ?_
      | (refine xo_gtr rfl rfl rfl rfl ?_)
    first | refine xo_pickT rfl rfl rfl rfl ?_ | refine xo_pickF rfl rfl rfl rfl ?_
    refine xo_asg rfl rfl rfl ?_
    with_reducible refine xo_nil ?_
    with_reducible repeat (first | refine xq_then ?_ | refine xq_blockN ?_ | refine xq_scopeN ?_)
    with_reducible repeat refine xc_seq ?_
    with_reducible refine xc_ret ?_
    with_reducible repeat (first | refine xq_thenR ?_ | refine xq_blockR ?_ | refine xq_scopeR ?_)
    exact (xq_ret1 rfl rfl fun w' hw => ⟨rfl, hw.kx.below⟩)
/-- the place of the first element of which something is so, -1 if there is none -/
def idxF {α : Type} (p : α → Bool) : List α → Nat → Int
  | [], _ => -1
  | x :: r, i => if p x then (i : Int) else idxF p r (i + 1)
theorem idxF_hit {α : Type} (p : α → Bool) (z : α) : ∀ (zs : List α) (k i : Nat), k < zs.length → p (zs.getD k z) = true → (∀ j, j < k → p (zs.getD j z) = false) → idxF p zs i = ((i + k : Nat) : Int)
  | [], k, i, h, _, _ => absurd h (by simp)
  | x :: r, 0, i, _, h, _ => by simp [idxF] at h ⊢; simp [h]
  | x :: r, k + 1, i, hk, h, hn => by
    have h0 := hn 0 (by omega)
    simp at h0
    have := idxF_hit p z r k (i + 1) (by simpa using hk) (by simpa using h) (fun j hj => by simpa using hn (j + 1) (by omega))
    simp [idxF, h0, this]
    omega
theorem idxF_miss {α : Type} (p : α → Bool) (z : α) : ∀ (zs : List α) (i : Nat), (∀ j, j < zs.length → p (zs.getD j z) = false) → idxF p zs i = -1
  | [], _, _ => rfl
  | x :: r, i, h => by
    have h0 := h 0 (by simp)
    simp at h0
    simp [idxF, h0, idxF_miss p z r (i + 1) (fun j hj => by simpa using h (j + 1) (by simpa using hj))]
theorem idxF_any {α : Type} (p : α → Bool) : ∀ (zs : List α) (i : Nat), decide (0 ≤ idxF p zs i) = zs.any p
  | [], _ => rfl
  | x :: r, i => by
    by_cases h : p x = true
    · simp [idxF, h]
    · have h' : p x = false := by simpa using h
      simp [idxF, h', ← idxF_any p r (i + 1)]
/-- a closure over whole numbers that answers p, in whatever world that is as w is below its own blocks -/
def Asks (P : Program) (w : World) (g : Nat) (cs : List Value) (enc : Int → Value) (p : Int → Bool) : Prop :=
  ∀ (x : Int) (W : World), Below w.heap.size w W → Calls P g ([enc x] ++ cs).toArray W fun e W' => e = .returned (.bool (p x)) ∧ Below W.heap.size W W'
theorem indexFunc_calls (p : Int → Bool) (g : Nat) (cs : List Value) (eg : ∀ args w, (callFunc g args).run Tryd.prog w = .ok (.enter g args) w) (A : Option Addr) (c : Nat) (zs : List Int) (w : World)
    (hr : Kd.C (Kd.int .i64) w A zs.length zs) (hp : Asks Tryd.prog w g cs (.int .i64) p) :
    Calls Tryd.prog 68 #[.slice A zs.length c, .func (.func g) #[] cs.toArray] w fun e w' => e = .returned (.int .i64 (idxF p zs 0)) ∧ Below w.heap.size w w' := by
  have hn := hr.2.1
  refine x_calls (X := XNone) Tryd.func68 rfl rfl rfl ?_
  with_reducible repeat refine xc_seq ?_
  with_reducible refine xc_region ?_
  refine xo_asg rfl rfl rfl ?_
  with_reducible refine xo_nil ?_
  with_reducible repeat (first | refine xq_then ?_ | refine xq_blockN ?_ | refine xq_scopeN ?_)
  with_reducible repeat refine xc_seq ?_
  with_reducible refine xc_region ?_
  refine xo_mv rfl rfl rfl ?_
  refine xo_len T_ rfl rfl rfl rfl ?_
  refine xo_mv rfl rfl rfl ?_
  with_reducible refine xo_nil ?_
  with_reducible repeat (first | refine xq_then ?_ | refine xq_blockN ?_ | refine xq_scopeN ?_)
  with_reducible repeat refine xc_seq ?_
  with_reducible refine xc_block ?_
  refine xc_loop (γ := Nat) (fun k => k ≤ zs.length ∧ ∀ j, j < k → p (zs.getD j 0) = false) (fun k => [(0, .slice A zs.length c), (1, .func (.func g) #[] cs.toArray), (6, .slice A zs.length c), (7, .int .i64 (zs.length : Int)), (8, .int .i64 (k : Int))]) (fun _ => []) (fun k => zs.length - k) 0
    ⟨Nat.zero_le _, fun j hj => absurd hj (Nat.not_lt_zero _)⟩ ⟨rfl, rfl, rfl, rfl, rfl, trivial⟩ (List.Sublist.refl _) ?_
  rintro k ⟨hk, hno⟩
  with_reducible repeat refine xc_seq ?_
  with_reducible refine xc_region ?_
  refine xo_lss rfl rfl rfl rfl ?_
  with_reducible refine xo_nil ?_
  with_reducible repeat (first | refine xq_then ?_ | refine xq_blockN ?_ | refine xq_scopeN ?_)
  with_reducible repeat refine xc_seq ?_
  refine xc_cond rfl (fun h => ?_) (fun h => ?_)
  · have hlt : k < zs.length := by have := of_decide_eq_true h; omega
    obtain ⟨ad, rfl, r1⟩ := int_at hr k hlt
    with_reducible refine xc_skip ?_
    with_reducible repeat (first | refine xq_then ?_ | refine xq_blockN ?_ | refine xq_scopeN ?_)
    with_reducible repeat refine xc_seq ?_
    with_reducible refine xc_block ?_
    with_reducible repeat refine xc_seq ?_
    with_reducible refine xc_region ?_
    refine xo_mv rfl rfl rfl ?_
    refine xo_asg rfl rfl rfl ?_
    with_reducible refine xo_nil ?_
    with_reducible repeat (first | refine xq_then ?_ | refine xq_blockN ?_ | refine xq_scopeN ?_)
    with_reducible repeat refine xc_seq ?_
    with_reducible refine xc_region ?_
    refine xo_mv rfl rfl rfl ?_
    refine xo_mv rfl rfl rfl ?_
    refine xo_mv rfl rfl rfl ?_
    refine xo_ia T_ rfl rfl rfl rfl rfl ⟨by omega, by omega⟩ rfl ?_
    refine xo_loadR0 T_ rfl rfl rfl (by first | assumption | exact RO.fld (by assumption) rfl) rfl ?_
    refine xo_callB (fs := []) rfl rfl rfl eg rfl (fun w1 hw1 => hp _ _ hw1.kx.below) ?_
    with_reducible refine xo_nil ?_
    with_reducible repeat (first | refine xq_then ?_ | refine xq_blockN ?_ | refine xq_scopeN ?_)
    with_reducible repeat refine xc_seq ?_
    refine xc_cond rfl (fun h2 => ?_) (fun h2 => ?_)
    · with_reducible repeat refine xc_seq ?_
      with_reducible refine xc_region ?_
      refine xo_mv rfl rfl rfl ?_
      refine xo_asg rfl rfl rfl ?_
      with_reducible refine xo_nil ?_
      with_reducible repeat (first | refine xq_then ?_ | refine xq_blockN ?_ | refine xq_scopeN ?_)
      with_reducible repeat refine xc_seq ?_
      with_reducible refine xc_ret ?_
      with_reducible repeat (first | refine xq_thenR ?_ | refine xq_blockR ?_ | refine xq_scopeR ?_)
      exact (xq_ret1 rfl rfl fun w' hw => ⟨by rw [idxF_hit p 0 zs k 0 hlt h2 hno]; simp, hw.kx.below⟩)
    · with_reducible refine xc_skip ?_
      with_reducible repeat (first | refine xq_then ?_ | refine xq_blockN ?_ | refine xq_scopeN ?_)
      with_reducible repeat refine xc_seq ?_
      with_reducible refine xc_region ?_
      refine xo_add rfl rfl rfl (by omega) rfl ?_
      refine xo_mv rfl rfl rfl ?_
      with_reducible refine xo_nil ?_
      with_reducible repeat (first | refine xq_then ?_ | refine xq_blockN ?_ | refine xq_scopeN ?_)
      refine xq_again _ _ _ _ _ (k + 1) ⟨by omega, fun j hj => ?_⟩ (by omega) ⟨rfl, rfl, rfl, rfl, rfl, trivial⟩ (List.Sublist.refl _)
      by_cases e : j = k
      · subst e; exact h2
      · exact hno j (by omega)
  · have hge : ¬ k < zs.length := by have := of_decide_eq_false h; omega
    with_reducible refine xc_exit ?_
    with_reducible repeat (first | refine xq_blockX ?_ | refine xq_thenE ?_ | refine xq_blockE rfl ?_ | refine xq_scopeE ?_)
    with_reducible repeat (first | refine xq_then ?_ | refine xq_blockN ?_ | refine xq_scopeN ?_)
    with_reducible repeat refine xc_seq ?_
    with_reducible refine xc_region ?_
    refine xo_asg rfl rfl rfl ?_
    with_reducible refine xo_nil ?_
    with_reducible repeat (first | refine xq_then ?_ | refine xq_blockN ?_ | refine xq_scopeN ?_)
    with_reducible repeat refine xc_seq ?_
    with_reducible refine xc_ret ?_
    with_reducible repeat (first | refine xq_thenR ?_ | refine xq_blockR ?_ | refine xq_scopeR ?_)
    refine xq_ret1 rfl rfl fun w' hw => ⟨?_, hw.kx.below⟩
    rw [idxF_miss p 0 zs 0 (fun j hj => hno j (by omega))]
theorem containsFunc_calls (p : Int → Bool) (g : Nat) (cs : List Value) (eg : ∀ args w, (callFunc g args).run Tryd.prog w = .ok (.enter g args) w) (A : Option Addr) (c : Nat) (zs : List Int) (w : World)
    (hr : Kd.C (Kd.int .i64) w A zs.length zs) (hp : Asks Tryd.prog w g cs (.int .i64) p) :
    Calls Tryd.prog 44 #[.slice A zs.length c, .func (.func g) #[] cs.toArray] w fun e w' => e = .returned (.bool (zs.any p)) ∧ Below w.heap.size w w' := by
  rw [← idxF_any p zs 0]
  have eg2 := enters_of Tryd.func68 (by kernel_rfl) rfl
  refine x_calls (X := XNone) Tryd.func44 rfl rfl rfl ?_
  with_reducible repeat refine xc_seq ?_
  with_reducible refine xc_region ?_
  refine xo_asg rfl rfl rfl ?_
  with_reducible refine xo_nil ?_
  with_reducible repeat (first | refine xq_then ?_ | refine xq_blockN ?_ | refine xq_scopeN ?_)
  with_reducible repeat refine xc_seq ?_
  with_reducible refine xc_region ?_
  refine xo_mv rfl rfl rfl ?_
  refine xo_mv rfl rfl rfl ?_
  refine xo_callB (fs := []) (cs := []) rfl rfl rfl eg2 rfl (fun w1 hw1 => indexFunc_calls p g cs eg A c zs w1 (Kd.C_below hr hw1.kx.below) (fun x W hW => hp x W (below_step hw1.kx.below hW))) ?_
  refine xo_geq rfl rfl rfl rfl ?_
  refine xo_asg rfl rfl rfl ?_
  with_reducible refine xo_nil ?_
  with_reducible repeat (first | refine xq_then ?_ | refine xq_blockN ?_ | refine xq_scopeN ?_)
  with_reducible repeat refine xc_seq ?_
  with_reducible refine xc_ret ?_
  with_reducible repeat (first | refine xq_thenR ?_ | refine xq_blockR ?_ | refine xq_scopeR ?_)
  exact (xq_ret1 rfl rfl fun w' hw => ⟨rfl, hw.kx.below⟩)
def trust_in.f (a0 : Int) (a1 : Int) (l2 : List Int) : Option Bool := some (!l2.any fun x => decide (x < a0) || decide (a1 < x))
theorem trust_in.calls (a0 : Int) (a1 : Int) (A2 : Option Addr) (c2 : Nat) (l2 : List Int) (r : Bool) (w : World) (hr2 : Kd.C (Kd.int .i64) w A2 l2.length l2) (hc2 : l2.length ≤ c2) (h : trust_in.f a0 a1 l2 = some r) :
    Calls Tryd.prog 65 #[.int .i64 a0, .int .i64 a1, .slice A2 l2.length c2] w fun e w' => e = .returned (.bool r) ∧ Below w.heap.size w w' := by
  obtain rfl := Option.some.inj h
  have eg : ∀ args w, (callFunc 79 args).run Tryd.prog w = .ok (.enter 79 args) w := enters_of Tryd.func79 (by kernel_rfl) rfl
  have eg2 := enters_of Tryd.func44 (by kernel_rfl) rfl
  refine x_calls (X := XNone) Tryd.func65 rfl rfl rfl ?_
  with_reducible repeat refine xc_seq ?_
  with_reducible refine xc_region ?_
  refine xo_box rfl rfl rfl rfl (fun b3 => ?_)
  refine xo_box rfl rfl rfl rfl (fun b4 => ?_)
  refine xo_asg rfl rfl rfl ?_
  with_reducible refine xo_nil ?_
  with_reducible repeat (first | refine xq_then ?_ | refine xq_blockN ?_ | refine xq_scopeN ?_)
  with_reducible repeat refine xc_seq ?_
  with_reducible refine xc_region ?_
  refine xo_mv rfl rfl rfl ?_
  refine xo_mkf rfl rfl rfl rfl ?_
  refine xo_callB (fs := []) (cs := []) rfl rfl rfl eg2 rfl (fun w1 hw1 => containsFunc_calls (fun x => decide (x < a0) || decide (a1 < x)) _ [.pointer (some ⟨b3, 0, none⟩), .pointer (some ⟨b4, 0, none⟩)] eg A2 c2 l2 w1 (Kd.C_below hr2 hw1.kx.below)
    (fun x W hW => in1_calls x a0 a1 b3 b4 W ((hw1.below hW).cell (t := 3) (List.Mem.tail _ (List.Mem.head _)) 0 rfl) ((hw1.below hW).cell (List.Mem.head _) 0 rfl))) ?_
  refine xo_notOp rfl rfl rfl ?_
  refine xo_asg rfl rfl rfl ?_
  with_reducible refine xo_nil ?_
  with_reducible repeat (first | refine xq_then ?_ | refine xq_blockN ?_ | refine xq_scopeN ?_)
  with_reducible repeat refine xc_seq ?_
  with_reducible refine xc_ret ?_
  with_reducible repeat (first | refine xq_thenR ?_ | refine xq_blockR ?_ | refine xq_scopeR ?_)
  exact (xq_ret1 rfl rfl fun w' hw => ⟨rfl, hw.kx.below⟩)
end Go.Proofs.YtcmepdamemnbkaaDoor
namespace Go.Proofs.YtcmepdamemnbkaaDoor
open Go.RowKit Go.Proofs.YtcmepdamemnbkaaDoorW.PrintWords
set_option linter.unusedVariables false
set_option linter.unusedSimpArgs false
abbrev RecT := S50
abbrev LetT := S52
abbrev recK : Kd RecT := k50
abbrev letK : Kd LetT := k52
abbrev waysK : Kd (List Int) := Kd.slice 3 (Kd.int .i64)
abbrev zRec : RecT := z50
abbrev zLet : LetT := z52
def recV (x : RecT) (A : Option Addr) (c : Nat) : List Value := [.int .i64 x.f0, .int .u8 x.f1, .slice A x.f2.length c]
def letV (x : LetT) : List Value := [.int .i64 x.f0, .int .i64 x.f1, .int .i64 x.f2, .int .u8 x.f3]
def Bytes (r : List RecT) : Prop := ∀ x ∈ r, 0 ≤ x.f1 ∧ x.f1 ≤ 255
def BytesL (l : List LetT) : Prop := ∀ x ∈ l, 0 ≤ x.f3 ∧ x.f3 ≤ 255
theorem ro_of {w : World} {p : Addr} {cs : List Value} (h : ∀ j v, cs[j]? = some v → w.cell? (p.add j) = some v) : RO w XNone p cs := fun j v hj => ⟨h j v hj, fun x => x⟩
theorem at_of {α : Type} {d : Kd α} {w : World} {A : Option Addr} {n : Nat} {xs : List α} (h : Kd.C d w A n xs) (z : α) (k : Nat) (hk : k < n) :
    ∃ ad cs, A = some ad ∧ xs[k]? = some (xs.getD k z) ∧ d.K w (xs.getD k z) cs ∧ RO w XNone (ad.add (k * d.sz)) cs := by
  obtain ⟨ad, e, hc⟩ := h.2.2 (by omega)
  have hl : k < xs.length := by have := h.1; omega
  have hg : xs.getD k z = xs[k] := by simp [List.getD_eq_getElem?_getD, List.getElem?_eq_getElem hl]
  obtain ⟨cs, h1, h2, h3⟩ := hc k _ (List.getElem?_eq_getElem hl)
  rw [hg]
  exact ⟨ad, cs, e, List.getElem?_eq_getElem hl, h2, ro_of fun j v hj => by rw [add_add]; exact h3 j v hj⟩
theorem rec_at {w : World} {A : Option Addr} {n : Nat} {r : List RecT} (h : Kd.C recK w A n r) (k : Nat) (hk : k < n) :
    ∃ ad A2 c2, A = some ad ∧ RO w XNone (ad.add ((k : Int).toNat * szN 3)) (recV (r.getD k zRec) A2 c2) ∧ (r.getD k zRec).f2.length ≤ c2 ∧ Kd.C waysK w A2 (r.getD k zRec).f2.length (r.getD k zRec).f2 := by
  obtain ⟨ad, cs, e, _, hK, hR⟩ := at_of h zRec k hk
  obtain ⟨A2, c2, rfl, h1, h2⟩ := k50_open hK
  exact ⟨ad, A2, c2, e, hR, h1, h2⟩
theorem let_at {w : World} {A : Option Addr} {n : Nat} {r : List LetT} (h : Kd.C letK w A n r) (k : Nat) (hk : k < n) :
    ∃ ad, A = some ad ∧ RO w XNone (ad.add ((k : Int).toNat * szN 4)) (letV (r.getD k zLet)) := by
  obtain ⟨ad, cs, e, _, hK, hR⟩ := at_of h zLet k hk
  obtain rfl := k52_open hK
  exact ⟨ad, e, hR⟩
theorem way_at {w : World} {A : Option Addr} {n : Nat} {r : List (List Int)} (h : Kd.C waysK w A n r) (k : Nat) (hk : k < n) :
    ∃ ad A2 c2, A = some ad ∧ RO w XNone (ad.add ((k : Int).toNat * szN 0)) [.slice A2 (r.getD k []).length c2] ∧ (r.getD k []).length ≤ c2 ∧ Kd.C (Kd.int .i64) w A2 (r.getD k []).length (r.getD k []) := by
  obtain ⟨ad, cs, e, _, hK, hR⟩ := at_of h [] k hk
  obtain ⟨A2, c2, rfl, h1, h2⟩ := hK
  exact ⟨ad, A2, c2, e, hR, h1, h2⟩
theorem drop_at {α : Type} (xs : List α) (z : α) (k : Nat) (hk : k < xs.length) : xs.drop k = xs.getD k z :: xs.drop (k + 1) := by
  rw [List.drop_eq_getElem_cons hk]
  simp [List.getD_eq_getElem?_getD, List.getElem?_eq_getElem hk]
theorem getD_mem {α : Type} (xs : List α) (z : α) (k : Nat) (hk : k < xs.length) : xs.getD k z ∈ xs := by
  simp [List.getD_eq_getElem?_getD, List.getElem?_eq_getElem hk]
/-- a row of whole numbers of the call's own, as it is read -/
theorem C_cel {w0 : World} {X : Nat → Prop} {η : Hp} {w : World} (hw : WOK w0 X η w) {b : Nat} {wr : Bool} {xs : List Int} {t : TypeId} (hm : (b, wr, cel (xs.map (.int .i64)) t) ∈ η) (hl : xs.length ≤ 9223372036854775807) : Kd.C (Kd.int .i64) w (some ⟨b, 0, none⟩) xs.length xs := by
  refine ⟨rfl, hl, fun _ => ⟨_, rfl, fun j p hj => ⟨[.int .i64 p], rfl, rfl, fun i u hu => ?_⟩⟩⟩
  have hi : i = 0 := by
    have := (List.getElem?_eq_some_iff.1 hu).1
    simpa using this
  subst hi
  simp at hu
  subst hu
  rw [Addr.add_lit]
  refine hw.cell hm _ ?_
  simp [Kd.int, Kd.scalar, hj]
/-! ### answers -/
def inF (lo hi x : Int) : Bool := decide (lo ≤ x) && decide (x ≤ hi)
def knownF (r : List RecT) (id : Int) : Bool := r.any fun x => decide (x.f0 = id)
def wayF (bs : List Int) : Int → List Int → Bool
  | _, [] => true
  | past, n :: w => !(decide (n ≤ past) || !decide (n ∈ bs)) && wayF bs n w
def waysF (bs : List Int) (l : List (List Int)) : Bool := l.all fun w => wayF bs (-1) w && inF 1 4 w.length
def mostF (k : Int) : Int := if 3 ≤ k then 3 else 0
def recF : List Int → Int → List RecT → Bool
  | _, _, [] => true
  | bs, last, x :: r => (inF (last + 1) 9999 x.f0 && inF 1 4 x.f1 && inF (if 3 ≤ x.f1 then 1 else 0) (mostF x.f1) x.f2.length) && (waysF bs x.f2 && recF (insN x.f0 bs) x.f0 r)
def recordedF (r : List RecT) : Bool := recF [] (-1) r && decide (r.length ≤ 12)
theorem in_one (a0 a1 x : Int) : (!([x].any fun x => decide (x < a0) || decide (a1 < x))) = inF a0 a1 x := by
  unfold inF
  rw [Bool.eq_iff_iff]
  simp
/-- is one number in a span? -/
theorem in_calls {w0 : World} {X : Nat → Prop} {η : Hp} {w : World} (hw : WOK w0 X η w) (lo hi x : Int) {b : Nat} {wr : Bool} {t : TypeId} (hm : (b, wr, cel [.int .i64 x] t) ∈ η) :
    Calls Tryd.prog 65 #[.int .i64 lo, .int .i64 hi, .slice (some ⟨b, 0, none⟩) 1 1] w fun e w' => e = .returned (.bool (inF lo hi x)) ∧ Below w.heap.size w w' := by
  rw [← in_one]
  exact trust_in.calls lo hi (some ⟨b, 0, none⟩) 1 [x] _ w (C_cel hw (xs := [x]) hm (by simp)) (by simp) rfl
theorem in_enters : ∀ args w, (callFunc 65 args).run Tryd.prog w = .ok (.enter 65 args) w := enters_of Tryd.func65 (by kernel_rfl) rfl
end Go.Proofs.YtcmepdamemnbkaaDoor
namespace Go.Proofs.YtcmepdamemnbkaaDoor
open Go.RowKit Go.Proofs.YtcmepdamemnbkaaDoorW.PrintWords
set_option linter.unusedVariables false
set_option linter.unusedSimpArgs false
theorem min_most (k : Int) : (if mostF k < 1 then mostF k else 1) = if 3 ≤ k then 1 else 0 := by
  unfold mostF
  split <;> simp
set_option maxHeartbeats 4000000 in
theorem recorded_calls (A : Option Addr) (c : Nat) (r : List RecT) (w : World) (hr : Kd.C recK w A r.length r) (hk : Bytes r) :
    Calls Tryd.prog 41 #[.slice A r.length c] w fun e w' => e = .returned (.bool (recordedF r)) ∧ Below w.heap.size w w' := by
  have hn := hr.2.1
  refine x_calls (X := XNone) Tryd.func41 rfl rfl rfl ?_
  with_reducible repeat refine xc_seq ?_
  with_reducible refine xc_region ?_
  refine xo_asg rfl rfl rfl ?_
  with_reducible refine xo_nil ?_
  with_reducible repeat (first | refine xq_then ?_ | refine xq_blockN ?_ | refine xq_scopeN ?_)
  with_reducible repeat refine xc_seq ?_
  with_reducible refine xc_region ?_
  refine xo_asg rfl rfl rfl ?_
  with_reducible refine xo_nil ?_
  with_reducible repeat (first | refine xq_then ?_ | refine xq_blockN ?_ | refine xq_scopeN ?_)
  with_reducible repeat refine xc_seq ?_
  with_reducible refine xc_region ?_
  refine xo_mkm rfl rfl (fun b13 => ?_)
  refine xo_asg rfl rfl rfl ?_
  with_reducible refine xo_nil ?_
  with_reducible repeat (first | refine xq_then ?_ | refine xq_blockN ?_ | refine xq_scopeN ?_)
  with_reducible repeat refine xc_seq ?_
  with_reducible refine xc_region ?_
  refine xo_mv rfl rfl rfl ?_
  refine xo_len T_ rfl rfl rfl rfl ?_
  refine xo_mv rfl rfl rfl ?_
  with_reducible refine xo_nil ?_
  with_reducible repeat (first | refine xq_then ?_ | refine xq_blockN ?_ | refine xq_scopeN ?_)
  with_reducible repeat refine xc_seq ?_
  with_reducible refine xc_block ?_
  refine xc_loop (γ := Nat × List Int × Int) (fun q => q.1 ≤ r.length ∧ -1 ≤ q.2.2 ∧ q.2.2 ≤ 9999 ∧ recF [] (-1) r = recF q.2.1 q.2.2 (r.drop q.1)) (fun q => [(0, .slice A r.length c), (3, .int .i64 q.2.2), (4, .map (some b13)), (14, .slice A r.length c), (15, .int .i64 (r.length : Int)), (16, .int .i64 (q.1 : Int))]) (fun q => [(b13, true, hmap (setV q.2.1))]) (fun q => r.length - q.1) (0, [], -1)
    ⟨Nat.zero_le _, by simp, by simp, rfl⟩ ⟨rfl, rfl, rfl, rfl, rfl, rfl, trivial⟩ (by repeat (first | exact List.Sublist.refl _ | apply List.Sublist.cons_cons | apply List.Sublist.cons | exact List.nil_sublist _)) ?_
  rintro ⟨k, bs, last⟩ ⟨hk1, hl0, hl1, hrec⟩
  simp only at hk1 hl0 hl1 hrec ⊢
  with_reducible repeat refine xc_seq ?_
  with_reducible refine xc_region ?_
  refine xo_lss rfl rfl rfl rfl ?_
  with_reducible refine xo_nil ?_
  with_reducible repeat (first | refine xq_then ?_ | refine xq_blockN ?_ | refine xq_scopeN ?_)
  with_reducible repeat refine xc_seq ?_
  refine xc_cond rfl (fun h => ?_) (fun h => ?_)
  · have hlt : k < r.length := by have := of_decide_eq_true h; omega
    obtain ⟨ad, A2, c2, rfl, r1, hc2, hw2⟩ := rec_at hr k hlt
    have hby := hk _ (getD_mem r zRec k hlt)
    rw [drop_at r zRec k hlt] at hrec
    generalize r.getD k zRec = x at *
    have hm2 := hw2.2.1
    with_reducible refine xc_skip ?_
    with_reducible repeat (first | refine xq_then ?_ | refine xq_blockN ?_ | refine xq_scopeN ?_)
    with_reducible repeat refine xc_seq ?_
    with_reducible refine xc_block ?_
    with_reducible repeat refine xc_seq ?_
    with_reducible refine xc_region ?_
    refine xo_ia T_ rfl rfl rfl rfl rfl ⟨by omega, by omega⟩ rfl ?_
    refine xo_loadRN T_ rfl rfl rfl (by assumption) rfl rfl ?_
    refine xo_alloc T_ rfl rfl rfl rfl (fun b6 => ?_)
    refine xo_store T_ rfl rfl rfl rfl (by repeat (first | exact List.Mem.head _ | apply List.Mem.tail | apply List.mem_append_right)) rfl rfl rfl rfl (by repeat (first | exact Upd.head | apply Upd.tail | apply Upd.app)) rfl ?_
    with_reducible refine xo_nil ?_
    with_reducible repeat (first | refine xq_then ?_ | refine xq_blockN ?_ | refine xq_scopeN ?_)
    with_reducible repeat refine xc_seq ?_
    with_reducible refine xc_region ?_
    refine xo_asg rfl rfl rfl ?_
    with_reducible refine xo_nil ?_
    with_reducible repeat (first | refine xq_then ?_ | refine xq_blockN ?_ | refine xq_scopeN ?_)
    refine xc_cut (γ := Unit) (fun _ => True) (fun _ => [(0, .slice (some ad) r.length c), (3, .int .i64 last), (4, .map (some b13)), (6, .pointer (some ⟨b6, 0, none⟩)), (7, .int .i64 (mostF x.f1)), (14, .slice (some ad) r.length c), (15, .int .i64 (r.length : Int)), (16, .int .i64 (k : Int))]) (fun _ => [(b6, true, cel (recV x A2 c2) 50), (b13, true, hmap (setV bs))]) ?_ (fun _ _ => ?_)
    · with_reducible repeat refine xc_seq ?_
      with_reducible refine xc_region ?_
      refine xo_fa T_ rfl rfl rfl rfl rfl ?_
      refine xo_load0 T_ rfl rfl rfl (by repeat (first | exact List.Mem.head _ | apply List.Mem.tail | apply List.mem_append_right)) rfl rfl ?_
      refine xo_geq rfl rfl rfl rfl ?_
      with_reducible refine xo_nil ?_
      with_reducible repeat (first | refine xq_then ?_ | refine xq_blockN ?_ | refine xq_scopeN ?_)
      with_reducible repeat refine xc_seq ?_
      refine xc_cond rfl (fun h3 => ?_) (fun h3 => ?_)
      · with_reducible repeat refine xc_seq ?_
        with_reducible refine xc_region ?_
        refine xo_asg rfl rfl rfl ?_
        with_reducible refine xo_nil ?_
        with_reducible repeat (first | refine xq_then ?_ | refine xq_blockN ?_ | refine xq_scopeN ?_)
        exact xq_meet _ _ _ () trivial ⟨rfl, rfl, rfl, rfl, by simp only [mostF, if_pos (of_decide_eq_true h3)]; rfl, rfl, rfl, rfl, trivial⟩ (by repeat (first | exact List.Sublist.refl _ | apply List.Sublist.cons_cons | apply List.Sublist.cons | exact List.nil_sublist _))
      · with_reducible refine xc_skip ?_
        with_reducible repeat (first | refine xq_then ?_ | refine xq_blockN ?_ | refine xq_scopeN ?_)
        exact xq_meet _ _ _ () trivial ⟨rfl, rfl, rfl, rfl, by simp only [mostF, if_neg (of_decide_eq_false h3)]; rfl, rfl, rfl, rfl, trivial⟩ (by repeat (first | exact List.Sublist.refl _ | apply List.Sublist.cons_cons | apply List.Sublist.cons | exact List.nil_sublist _))
    cases h1 : !inF (last + 1) 9999 x.f0 <;> cases h2 : !inF 1 4 x.f1 <;> cases h3 : !inF (if 3 ≤ x.f1 then 1 else 0) (mostF x.f1) x.f2.length
    all_goals
      with_reducible repeat refine xc_seq ?_
      with_reducible refine xc_region ?_
      refine xo_mv rfl rfl rfl ?_
      refine xo_add rfl rfl rfl (by omega) rfl ?_
      refine xo_fa T_ rfl rfl rfl rfl rfl ?_
      refine xo_load0 T_ rfl rfl rfl (by repeat (first | exact List.Mem.head _ | apply List.Mem.tail | apply List.mem_append_right)) rfl rfl ?_
      refine xo_bs1 T_ rfl rfl rfl rfl rfl rfl rfl rfl (fun b27 => ?_)
      refine xo_callB (fs := []) (cs := []) rfl rfl rfl in_enters rfl (fun w1 hw1 => in_calls hw1 _ _ _ (by repeat (first | exact List.Mem.head _ | apply List.Mem.tail | apply List.mem_append_right))) ?_
      refine xo_notOp rfl rfl rfl ?_
      refine xo_mv rfl rfl rfl ?_
      refine xo_as (i := 30) rfl (congrArg Value.bool h1) ?_
      first
        | refine xo_not rfl rfl ?_
        | (refine xo_fa T_ rfl rfl rfl rfl rfl ?_)
      first
        | refine xo_not rfl rfl ?_
        | (refine xo_load0 T_ rfl rfl rfl (by repeat (first | exact List.Mem.head _ | apply List.Mem.tail | apply List.mem_append_right)) rfl rfl ?_)
      first
        | refine xo_not rfl rfl ?_
        | (refine xo_conv T_ rfl rfl rfl rfl (IntWalk.i64_in _ ⟨by omega, by omega⟩) rfl ?_)
      first
        | refine xo_not rfl rfl ?_
        | (refine xo_bs1 T_ rfl rfl rfl rfl rfl rfl rfl rfl (fun b34 => ?_))
      first
        | refine xo_not rfl rfl ?_
        | (refine xo_callB (fs := []) (cs := []) rfl rfl rfl in_enters rfl (fun w1 hw1 => in_calls hw1 _ _ _ (by repeat (first | exact List.Mem.head _ | apply List.Mem.tail | apply List.mem_append_right))) ?_)
      first
        | refine xo_not rfl rfl ?_
        | (refine xo_notOp rfl rfl rfl ?_)
      first | refine xo_pickT rfl rfl rfl rfl ?_ | refine xo_pickF rfl rfl rfl rfl ?_
      refine xo_mv rfl rfl rfl ?_
      first | refine xo_as (i := 38) rfl (congrArg Value.bool h2) ?_ | skip
      first
        | refine xo_not rfl rfl ?_
        | (refine xo_mv rfl rfl rfl ?_)
      first
        | refine xo_not rfl rfl ?_
        | (refine xo_min rfl rfl rfl rfl ?_)
      first | refine xo_as (i := 40) rfl (congrArg (Value.int .i64) (min_most x.f1)) ?_ | skip
      first
        | refine xo_not rfl rfl ?_
        | (refine xo_mv rfl rfl rfl ?_)
      first
        | refine xo_not rfl rfl ?_
        | (refine xo_fa T_ rfl rfl rfl rfl rfl ?_)
      first
        | refine xo_not rfl rfl ?_
        | (refine xo_load0 T_ rfl rfl rfl (by repeat (first | exact List.Mem.head _ | apply List.Mem.tail | apply List.mem_append_right)) rfl rfl ?_)
      first
        | refine xo_not rfl rfl ?_
        | (refine xo_len T_ rfl rfl rfl rfl ?_)
      first
        | refine xo_not rfl rfl ?_
        | (refine xo_bs1 T_ rfl rfl rfl rfl rfl rfl rfl rfl (fun b45 => ?_))
      first
        | refine xo_not rfl rfl ?_
        | (refine xo_callB (fs := []) (cs := []) rfl rfl rfl in_enters rfl (fun w1 hw1 => in_calls hw1 _ _ _ (by repeat (first | exact List.Mem.head _ | apply List.Mem.tail | apply List.mem_append_right))) ?_)
      first
        | refine xo_not rfl rfl ?_
        | (refine xo_notOp rfl rfl rfl ?_)
      first | refine xo_pickT rfl rfl rfl rfl ?_ | refine xo_pickF rfl rfl rfl rfl ?_
      first | refine xo_as (i := 48) rfl (congrArg Value.bool h3) ?_ | skip
      with_reducible refine xo_nil ?_
      with_reducible repeat (first | refine xq_then ?_ | refine xq_blockN ?_ | refine xq_scopeN ?_)
      with_reducible repeat refine xc_seq ?_
      first | refine xc_condT rfl ?_ | refine xc_condF rfl ?_
    rotate_left
    iterate 7
      · with_reducible repeat refine xc_seq ?_
        with_reducible refine xc_region ?_
        refine xo_asg rfl rfl rfl ?_
        with_reducible refine xo_nil ?_
        with_reducible repeat (first | refine xq_then ?_ | refine xq_blockN ?_ | refine xq_scopeN ?_)
        with_reducible repeat refine xc_seq ?_
        with_reducible refine xc_ret ?_
        with_reducible repeat (first | refine xq_thenR ?_ | refine xq_blockR ?_ | refine xq_scopeR ?_)
        refine xq_ret1 rfl rfl fun w' hw => ⟨?_, hw.kx.below⟩
        rw [recordedF, hrec, recF]
        simp only [Bool.not_eq_true', Bool.not_eq_false'] at h1 h2 h3
        simp only [h1, h2, h3, Bool.false_and, Bool.and_false]
    simp only [Bool.not_eq_true', Bool.not_eq_false'] at h1 h2 h3
    have hx0 : last + 1 ≤ x.f0 ∧ x.f0 ≤ 9999 := by simpa [inF] using h1
    have hrec2 : recF [] (-1) r = (waysF bs x.f2 && recF (insN x.f0 bs) x.f0 (r.drop (k + 1))) := by rw [hrec, recF]; simp only [h1, h2, h3, Bool.true_and]
    clear hrec
    with_reducible refine xc_skip ?_
    with_reducible repeat (first | refine xq_then ?_ | refine xq_blockN ?_ | refine xq_scopeN ?_)
    with_reducible repeat refine xc_seq ?_
    with_reducible refine xc_region ?_
    refine xo_fa T_ rfl rfl rfl rfl rfl ?_
    refine xo_load0 T_ rfl rfl rfl (by repeat (first | exact List.Mem.head _ | apply List.Mem.tail | apply List.mem_append_right)) rfl rfl ?_
    refine xo_len T_ rfl rfl rfl rfl ?_
    refine xo_mv rfl rfl rfl ?_
    with_reducible refine xo_nil ?_
    with_reducible repeat (first | refine xq_then ?_ | refine xq_blockN ?_ | refine xq_scopeN ?_)
    with_reducible repeat refine xc_seq ?_
    with_reducible refine xc_block ?_
    refine xc_loop (γ := Nat) (fun j => j ≤ x.f2.length ∧ waysF bs x.f2 = waysF bs (x.f2.drop j)) (fun j => [(0, .slice (some ad) r.length c), (3, .int .i64 last), (4, .map (some b13)), (6, .pointer (some ⟨b6, 0, none⟩)), (14, .slice (some ad) r.length c), (15, .int .i64 (r.length : Int)), (16, .int .i64 (k : Int)), (50, .slice A2 x.f2.length c2), (51, .int .i64 (x.f2.length : Int)), (52, .int .i64 (j : Int))])
      (fun _ => [(b6, true, cel (recV x A2 c2) 50), (b13, true, hmap (setV bs))]) (fun j => x.f2.length - j) 0 ⟨Nat.zero_le _, rfl⟩ ⟨rfl, rfl, rfl, rfl, rfl, rfl, rfl, rfl, rfl, rfl, trivial⟩ (by repeat (first | exact List.Sublist.refl _ | apply List.Sublist.cons_cons | apply List.Sublist.cons | exact List.nil_sublist _)) ?_
    rintro j ⟨hj, hways⟩
    with_reducible repeat refine xc_seq ?_
    with_reducible refine xc_region ?_
    refine xo_lss rfl rfl rfl rfl ?_
    with_reducible refine xo_nil ?_
    with_reducible repeat (first | refine xq_then ?_ | refine xq_blockN ?_ | refine xq_scopeN ?_)
    with_reducible repeat refine xc_seq ?_
    refine xc_cond rfl (fun hj2 => ?_) (fun hj2 => ?_)
    · have hjl : j < x.f2.length := by have := of_decide_eq_true hj2; omega
      obtain ⟨ad2, A3, c3, rfl, r2, hc3, hw3⟩ := way_at hw2 j hjl
      rw [drop_at x.f2 [] j hjl] at hways
      generalize x.f2.getD j [] = way at *
      have hm3 := hw3.2.1
      with_reducible refine xc_skip ?_
      with_reducible repeat (first | refine xq_then ?_ | refine xq_blockN ?_ | refine xq_scopeN ?_)
      with_reducible repeat refine xc_seq ?_
      with_reducible refine xc_block ?_
      with_reducible repeat refine xc_seq ?_
      with_reducible refine xc_region ?_
      refine xo_ia T_ rfl rfl rfl rfl rfl ⟨by omega, by omega⟩ rfl ?_
      refine xo_loadR0 T_ rfl rfl rfl (by first | assumption | exact RO.fld (by assumption) rfl) rfl ?_
      refine xo_asg rfl rfl rfl ?_
      with_reducible refine xo_nil ?_
      with_reducible repeat (first | refine xq_then ?_ | refine xq_blockN ?_ | refine xq_scopeN ?_)
      with_reducible repeat refine xc_seq ?_
      with_reducible refine xc_region ?_
      refine xo_asg rfl rfl rfl ?_
      with_reducible refine xo_nil ?_
      with_reducible repeat (first | refine xq_then ?_ | refine xq_blockN ?_ | refine xq_scopeN ?_)
      with_reducible repeat refine xc_seq ?_
      with_reducible refine xc_region ?_
      refine xo_mv rfl rfl rfl ?_
      refine xo_len T_ rfl rfl rfl rfl ?_
      refine xo_mv rfl rfl rfl ?_
      with_reducible refine xo_nil ?_
      with_reducible repeat (first | refine xq_then ?_ | refine xq_blockN ?_ | refine xq_scopeN ?_)
      with_reducible repeat refine xc_seq ?_
      with_reducible refine xc_block ?_
      refine xc_loop (γ := Nat × Int) (fun q => q.1 ≤ way.length ∧ wayF bs (-1) way = wayF bs q.2 (way.drop q.1)) (fun q => [(0, .slice (some ad) r.length c), (3, .int .i64 last), (4, .map (some b13)), (6, .pointer (some ⟨b6, 0, none⟩)), (14, .slice (some ad) r.length c), (15, .int .i64 (r.length : Int)), (16, .int .i64 (k : Int)), (50, .slice (some ad2) x.f2.length c2), (51, .int .i64 (x.f2.length : Int)), (52, .int .i64 (j : Int)), (9, .slice A3 way.length c3), (10, .int .i64 q.2), (56, .slice A3 way.length c3), (57, .int .i64 (way.length : Int)), (58, .int .i64 (q.1 : Int))])
        (fun _ => [(b6, true, cel (recV x (some ad2) c2) 50), (b13, true, hmap (setV bs))]) (fun q => way.length - q.1) (0, -1) ⟨Nat.zero_le _, rfl⟩ ⟨rfl, rfl, rfl, rfl, rfl, rfl, rfl, rfl, rfl, rfl, rfl, rfl, rfl, rfl, rfl, trivial⟩ (by repeat (first | exact List.Sublist.refl _ | apply List.Sublist.cons_cons | apply List.Sublist.cons | exact List.nil_sublist _)) ?_
      rintro ⟨i, past⟩ ⟨hi, hway⟩
      simp only at hi hway ⊢
      with_reducible repeat refine xc_seq ?_
      with_reducible refine xc_region ?_
      refine xo_lss rfl rfl rfl rfl ?_
      with_reducible refine xo_nil ?_
      with_reducible repeat (first | refine xq_then ?_ | refine xq_blockN ?_ | refine xq_scopeN ?_)
      with_reducible repeat refine xc_seq ?_
      refine xc_cond rfl (fun hi2 => ?_) (fun hi2 => ?_)
      · have hil : i < way.length := by have := of_decide_eq_true hi2; omega
        obtain ⟨ad3, rfl, r3⟩ := int_at hw3 i hil
        rw [drop_at way 0 i hil] at hway
        generalize way.getD i 0 = y at *
        with_reducible refine xc_skip ?_
        with_reducible repeat (first | refine xq_then ?_ | refine xq_blockN ?_ | refine xq_scopeN ?_)
        with_reducible repeat refine xc_seq ?_
        with_reducible refine xc_block ?_
        with_reducible repeat refine xc_seq ?_
        with_reducible refine xc_region ?_
        refine xo_ia T_ rfl rfl rfl rfl rfl ⟨by omega, by omega⟩ rfl ?_
        refine xo_loadR0 T_ rfl rfl rfl (by first | assumption | exact RO.fld (by assumption) rfl) rfl ?_
        refine xo_asg rfl rfl rfl ?_
        with_reducible refine xo_nil ?_
        with_reducible repeat (first | refine xq_then ?_ | refine xq_blockN ?_ | refine xq_scopeN ?_)
        cases h4 : decide (y ≤ past) <;> cases h5 : !decide (y ∈ bs)
        all_goals
          with_reducible repeat refine xc_seq ?_
          with_reducible refine xc_region ?_
          refine xo_mv rfl rfl rfl ?_
          refine xo_mv rfl rfl rfl ?_
          refine xo_leq rfl rfl rfl rfl ?_
          refine xo_mv rfl rfl rfl ?_
          refine xo_as (i := 65) rfl (congrArg Value.bool h4) ?_
          first
            | refine xo_not rfl rfl ?_
            | (refine xo_mv rfl rfl rfl ?_)
          first
            | refine xo_not rfl rfl ?_
            | (refine xo_mv rfl rfl rfl ?_)
          first
            | refine xo_not rfl rfl ?_
            | (refine xo_sget T_ rfl rfl rfl rfl rfl rfl (by repeat (first | exact List.Mem.head _ | apply List.Mem.tail | apply List.mem_append_right)) rfl ?_)
          first
            | refine xo_not rfl rfl ?_
            | (refine xo_notOp rfl rfl rfl ?_)
          first | refine xo_pickT rfl rfl rfl rfl ?_ | refine xo_pickF rfl rfl rfl rfl ?_
          first | refine xo_as (i := 70) rfl (congrArg Value.bool h5) ?_ | skip
          with_reducible refine xo_nil ?_
          with_reducible repeat (first | refine xq_then ?_ | refine xq_blockN ?_ | refine xq_scopeN ?_)
          with_reducible repeat refine xc_seq ?_
          first | refine xc_condT rfl ?_ | refine xc_condF rfl ?_
        rotate_left
        iterate 3
          · with_reducible repeat refine xc_seq ?_
            with_reducible refine xc_region ?_
            refine xo_asg rfl rfl rfl ?_
            with_reducible refine xo_nil ?_
            with_reducible repeat (first | refine xq_then ?_ | refine xq_blockN ?_ | refine xq_scopeN ?_)
            with_reducible repeat refine xc_seq ?_
            with_reducible refine xc_ret ?_
            with_reducible repeat (first | refine xq_thenR ?_ | refine xq_blockR ?_ | refine xq_scopeR ?_)
            refine xq_ret1 rfl rfl fun w' hw => ⟨?_, hw.kx.below⟩
            rw [recordedF, hrec2, hways, waysF, List.all_cons, hway, wayF]
            simp only [h4, h5, Bool.or_true, Bool.true_or, Bool.or_false, Bool.not_true, Bool.false_and]
        with_reducible refine xc_skip ?_
        with_reducible repeat (first | refine xq_then ?_ | refine xq_blockN ?_ | refine xq_scopeN ?_)
        with_reducible repeat refine xc_seq ?_
        with_reducible refine xc_region ?_
        refine xo_mv rfl rfl rfl ?_
        refine xo_asg rfl rfl rfl ?_
        with_reducible refine xo_nil ?_
        with_reducible repeat (first | refine xq_then ?_ | refine xq_blockN ?_ | refine xq_scopeN ?_)
        with_reducible repeat refine xc_seq ?_
        with_reducible refine xc_region ?_
        refine xo_add rfl rfl rfl (by omega) rfl ?_
        refine xo_mv rfl rfl rfl ?_
        with_reducible refine xo_nil ?_
        with_reducible repeat (first | refine xq_then ?_ | refine xq_blockN ?_ | refine xq_scopeN ?_)
        refine xq_again _ _ _ _ _ (i + 1, y) ⟨hil, ?_⟩ (by first | omega | (simp only; omega)) ⟨rfl, rfl, rfl, rfl, rfl, rfl, rfl, rfl, rfl, rfl, rfl, rfl, rfl, rfl, rfl, trivial⟩ (by repeat (first | exact List.Sublist.refl _ | apply List.Sublist.cons_cons | apply List.Sublist.cons | exact List.nil_sublist _))
        rw [hway, wayF]
        simp only [h4, h5, Bool.or_self, Bool.not_false, Bool.true_and]
      · have hige : ¬ i < way.length := by have := of_decide_eq_false hi2; omega
        rw [List.drop_of_length_le (by omega)] at hway
        with_reducible refine xc_exit ?_
        with_reducible repeat (first | refine xq_blockX ?_ | refine xq_thenE ?_ | refine xq_blockE rfl ?_ | refine xq_scopeE ?_)
        with_reducible repeat (first | refine xq_then ?_ | refine xq_blockN ?_ | refine xq_scopeN ?_)
        with_reducible repeat refine xc_seq ?_
        with_reducible refine xc_region ?_
        refine xo_mv rfl rfl rfl ?_
        refine xo_len T_ rfl rfl rfl rfl ?_
        refine xo_bs1 T_ rfl rfl rfl rfl rfl rfl rfl rfl (fun b75 => ?_)
        refine xo_callB (fs := []) (cs := []) rfl rfl rfl in_enters rfl (fun w1 hw1 => in_calls hw1 _ _ _ (by repeat (first | exact List.Mem.head _ | apply List.Mem.tail | apply List.mem_append_right))) ?_
        refine xo_notOp rfl rfl rfl ?_
        with_reducible refine xo_nil ?_
        with_reducible repeat (first | refine xq_then ?_ | refine xq_blockN ?_ | refine xq_scopeN ?_)
        with_reducible repeat refine xc_seq ?_
        refine xc_cond rfl (fun h6 => ?_) (fun h6 => ?_)
        · with_reducible repeat refine xc_seq ?_
          with_reducible refine xc_region ?_
          refine xo_asg rfl rfl rfl ?_
          with_reducible refine xo_nil ?_
          with_reducible repeat (first | refine xq_then ?_ | refine xq_blockN ?_ | refine xq_scopeN ?_)
          with_reducible repeat refine xc_seq ?_
          with_reducible refine xc_ret ?_
          with_reducible repeat (first | refine xq_thenR ?_ | refine xq_blockR ?_ | refine xq_scopeR ?_)
          refine xq_ret1 rfl rfl fun w' hw => ⟨?_, hw.kx.below⟩
          rw [recordedF, hrec2, hways, waysF, List.all_cons]
          simp only [Bool.not_eq_true'] at h6
          simp only [h6, Bool.and_false, Bool.false_and]
        · with_reducible refine xc_skip ?_
          with_reducible repeat (first | refine xq_then ?_ | refine xq_blockN ?_ | refine xq_scopeN ?_)
          with_reducible repeat refine xc_seq ?_
          with_reducible refine xc_region ?_
          refine xo_add rfl rfl rfl (by omega) rfl ?_
          refine xo_mv rfl rfl rfl ?_
          with_reducible refine xo_nil ?_
          with_reducible repeat (first | refine xq_then ?_ | refine xq_blockN ?_ | refine xq_scopeN ?_)
          refine xq_again _ _ _ _ _ (j + 1) ⟨hjl, ?_⟩ (by first | omega | (simp only; omega)) ⟨rfl, rfl, rfl, rfl, rfl, rfl, rfl, rfl, rfl, rfl, trivial⟩ (by repeat (first | exact List.Sublist.refl _ | apply List.Sublist.cons_cons | apply List.Sublist.cons | exact List.nil_sublist _))
          rw [hways, waysF, List.all_cons, hway, wayF]
          simp only [Bool.not_eq_false'] at h6
          simp only [h6, Bool.and_self, Bool.true_and]
          rfl
    · have hjge : ¬ j < x.f2.length := by have := of_decide_eq_false hj2; omega
      rw [List.drop_of_length_le (by omega)] at hways
      with_reducible refine xc_exit ?_
      with_reducible repeat (first | refine xq_blockX ?_ | refine xq_thenE ?_ | refine xq_blockE rfl ?_ | refine xq_scopeE ?_)
      with_reducible repeat (first | refine xq_then ?_ | refine xq_blockN ?_ | refine xq_scopeN ?_)
      with_reducible repeat refine xc_seq ?_
      with_reducible refine xc_region ?_
      refine xo_mv rfl rfl rfl ?_
      refine xo_fa T_ rfl rfl rfl rfl rfl ?_
      refine xo_load0 T_ rfl rfl rfl (by repeat (first | exact List.Mem.head _ | apply List.Mem.tail | apply List.mem_append_right)) rfl rfl ?_
      refine xo_sins T_ rfl rfl rfl rfl rfl rfl (by repeat (first | exact List.Mem.head _ | apply List.Mem.tail | apply List.mem_append_right)) (by repeat (first | exact Upd.head | apply Upd.tail | apply Upd.app)) rfl ?_
      with_reducible refine xo_nil ?_
      with_reducible repeat (first | refine xq_then ?_ | refine xq_blockN ?_ | refine xq_scopeN ?_)
      with_reducible repeat refine xc_seq ?_
      with_reducible refine xc_region ?_
      refine xo_fa T_ rfl rfl rfl rfl rfl ?_
      refine xo_load0 T_ rfl rfl rfl (by repeat (first | exact List.Mem.head _ | apply List.Mem.tail | apply List.mem_append_right)) rfl rfl ?_
      refine xo_asg rfl rfl rfl ?_
      with_reducible refine xo_nil ?_
      with_reducible repeat (first | refine xq_then ?_ | refine xq_blockN ?_ | refine xq_scopeN ?_)
      with_reducible repeat refine xc_seq ?_
      with_reducible refine xc_region ?_
      refine xo_add rfl rfl rfl (by omega) rfl ?_
      refine xo_mv rfl rfl rfl ?_
      with_reducible refine xo_nil ?_
      with_reducible repeat (first | refine xq_then ?_ | refine xq_blockN ?_ | refine xq_scopeN ?_)
      refine xq_again _ _ _ _ _ (k + 1, insN x.f0 bs, x.f0) ⟨hlt, by simp only; omega, hx0.2, ?_⟩ (by first | omega | (simp only; omega)) ⟨rfl, rfl, rfl, rfl, rfl, rfl, trivial⟩ (by repeat (first | exact List.Sublist.refl _ | apply List.Sublist.cons_cons | apply List.Sublist.cons | exact List.nil_sublist _))
      rw [hrec2, hways]
      rfl
  · have hge : ¬ k < r.length := by have := of_decide_eq_false h; omega
    rw [List.drop_of_length_le (by omega)] at hrec
    with_reducible refine xc_exit ?_
    with_reducible repeat (first | refine xq_blockX ?_ | refine xq_thenE ?_ | refine xq_blockE rfl ?_ | refine xq_scopeE ?_)
    with_reducible repeat (first | refine xq_then ?_ | refine xq_blockN ?_ | refine xq_scopeN ?_)
    with_reducible repeat refine xc_seq ?_
    with_reducible refine xc_region ?_
    refine xo_mv rfl rfl rfl ?_
    refine xo_len T_ rfl rfl rfl rfl ?_
    refine xo_leq rfl rfl rfl rfl ?_
    refine xo_asg rfl rfl rfl ?_
    with_reducible refine xo_nil ?_
    with_reducible repeat (first | refine xq_then ?_ | refine xq_blockN ?_ | refine xq_scopeN ?_)
    with_reducible repeat refine xc_seq ?_
    with_reducible refine xc_ret ?_
    with_reducible repeat (first | refine xq_thenR ?_ | refine xq_blockR ?_ | refine xq_scopeR ?_)
    refine xq_ret1 rfl rfl fun w' hw => ⟨?_, hw.kx.below⟩
    have e : decide ((r.length : Int) ≤ 12) = decide (r.length ≤ 12) := decide_eq_decide.2 (by omega)
    rw [recordedF, hrec, recF, Bool.true_and, ← e]
end Go.Proofs.YtcmepdamemnbkaaDoor
