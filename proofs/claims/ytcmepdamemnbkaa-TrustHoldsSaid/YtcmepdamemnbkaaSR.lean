/- SX: rows of the call's own: append, make, elements at a computed place. No program in sight. -/
import Derived.Test.YtcmepdamemnbkaaSP
import Derived.Maps.AppendAt
import Derived.Deep.OwnRows
namespace Go.Proofs.Ytcmepdamemnbkaa
open Go.RowKit Go.MapKept
attribute [local go_sem] Oper.semAt_some
set_option linter.unusedVariables false
set_option linter.unusedSimpArgs false

/-- a row that has been appended to: n elements of sz cells -/
def orow (e : TypeId) (sz n cap : Nat) (xs : List Value) : HP := fun o => ∃ cur : Array Value, o = .cells cur e (0, 0) ∧ n ≤ cap ∧ cap ≤ maxLen ∧ cur.size = cap * sz ∧ cur.toList.take (n * sz) = xs
abbrev RowR := Option (Nat × Nat)
def valR (r : RowR) (n : Nat) : Value := match r with
  | none => .slice none 0 0
  | some p => .slice (some ⟨p.1, 0, none⟩) n p.2
def hpR (e : TypeId) (sz : Nat) (r : RowR) (n : Nat) (xs : List Value) : Hp := match r with
  | none => []
  | some p => [(p.1, true, orow e sz n p.2 xs)]
theorem Upd.app {b : Nat} {φ' : HP} {r r' : Hp} (h : Upd b φ' r r') : ∀ l : Hp, Upd b φ' (l ++ r) (l ++ r')
  | [] => h
  | e :: l => .tail (h.app l)
/-- what append asks of an element type -/
structure TysR (P : Program) extends Tys P where
  inf : List (Nat × Value × Nat × Nat)
  hinf : ∀ p ∈ inf, (P.info? p.1).map (fun i => (i.zero, i.size, i.bytes)) = some (some p.2.1, p.2.2.1, p.2.2.2)
/-- what a struct that is built asks -/
structure TysB (P : Program) extends TysR P where
  bl : List (Nat × List (Nat × Nat) × Array Value)
  hbl : ∀ p ∈ bl, ∀ (parts : Array (Nat × Value)) (cs : Array Value) (w : World), Instr.fill (fun i => p.2.1[i]?) p.2.2 parts.toList = some cs → (Instr.build p.1 parts).run P w = .ok (.agg cs) w
def evp (σ : Slots) : List (Nat × Operand) → Option (List (Nat × Value))
  | [] => some []
  | p :: r => match ev σ p.2, evp σ r with
    | some v, some vs => some ((p.1, v) :: vs)
    | _, _ => none
theorem SOK.evp {N : Nat} {ds : List Deferred} {σ : Slots} {a : Act} (h : SOK N ds σ a) : ∀ {xs : List (Nat × Operand)} {vs : List (Nat × Value)}, evp σ xs = some vs → xs.map (fun p => (p.1, a.eval p.2)) = vs
  | [], vs, e => by cases e; rfl
  | x :: r, vs, e => by
    unfold Go.Proofs.Ytcmepdamemnbkaa.evp at e
    split at e
    · rename_i v ws h1 h2
      cases e
      rw [List.map_cons, h.ev h1, h.evp h2]
    · cases e
/-- what a struct holds, built out of parts -/
def fillL : List (Nat × Nat) → List Value → List (Nat × Value) → Option (List Value)
  | _, cs, [] => some cs
  | pl, cs, p :: r => match nth p.1 pl with
    | some q => match Nat.beq p.2.cells.toList.length q.2, setSeg q.1 p.2.cells.toList cs with
      | true, some cs' => fillL pl cs' r
      | _, _ => none
    | none => none
theorem foldl_set : ∀ (vs : List Value) (o j : Nat) (cs cs' : List Value), setSeg (o + j) vs cs = some cs' → o + j + vs.length ≤ cs.length ∧ (vs.zipIdx j).foldl (fun (a : Array Value) (p : Value × Nat) => a.setIfInBounds (o + p.2) p.1) cs.toArray = cs'.toArray := by
  have put1 : ∀ (k : Nat) (v : Value) (vs cs cs' : List Value), setSeg k (v :: vs) cs = some cs' → k < cs.length ∧ setSeg (k + 1) vs (cs.set k v) = some cs' := by
    intro k
    induction k with
    | zero =>
      intro v vs cs cs' h
      cases cs with
      | nil => simp [setSeg] at h
      | cons x r =>
        simp only [setSeg] at h
        split at h
        · rename_i r' hr
          cases h
          refine ⟨by simp, ?_⟩
          simp only [List.set_cons_zero, setSeg, Nat.zero_add, hr]
        · cases h
    | succ k ih =>
      intro v vs cs cs' h
      cases cs with
      | nil => simp [setSeg] at h
      | cons x r =>
        simp only [setSeg] at h
        split at h
        · rename_i r' hr
          cases h
          have := ih v vs r r' hr
          refine ⟨by simp; exact this.1, ?_⟩
          simp only [List.set_cons_succ, setSeg, this.2]
        · cases h
  have done : ∀ (k : Nat) (cs cs' : List Value), setSeg k [] cs = some cs' → cs' = cs ∧ k ≤ cs.length := by
    intro k
    induction k with
    | zero => intro cs cs' h; simp [setSeg] at h; exact ⟨h.symm, Nat.zero_le _⟩
    | succ k ih =>
      intro cs cs' h
      cases cs with
      | nil => simp [setSeg] at h
      | cons x r =>
        simp only [setSeg] at h
        split at h
        · rename_i r' hr
          cases h
          have := ih r r' hr
          exact ⟨by rw [this.1], by simp; exact this.2⟩
        · cases h
  intro vs
  induction vs with
  | nil =>
    intro o j cs cs' h
    have := done _ _ _ h
    exact ⟨by simpa using this.2, by simp [this.1]⟩
  | cons v vs ih =>
    intro o j cs cs' h
    obtain ⟨h1, h2⟩ := put1 _ _ _ _ _ h
    have h3 := ih o (j + 1) (cs.set (o + j) v) cs' (by rw [show o + (j + 1) = o + j + 1 from rfl]; exact h2)
    simp only [List.length_set] at h3
    refine ⟨by simp only [List.length_cons]; omega, ?_⟩
    simp only [List.zipIdx_cons, List.foldl_cons]
    rw [← h3.2]
    congr 1
    simp
theorem fillL_eq (pl : List (Nat × Nat)) : ∀ (ps : List (Nat × Value)) (cs cs' : List Value), fillL pl cs ps = some cs' → Instr.fill (fun i => pl[i]?) cs.toArray ps = some cs'.toArray
  | [], cs, cs', h => by simp [fillL] at h; simp [Instr.fill, h]
  | p :: r, cs, cs', h => by
    unfold fillL at h
    split at h
    · rename_i q hq
      split at h
      · rename_i c2 h1 h2
        have ih := fillL_eq pl r c2 cs' h
        rw [nth_eq] at hq
        have h3 := Nat.eq_of_beq_eq_true h1
        obtain ⟨h4, h5⟩ := foldl_set p.2.cells.toList q.1 0 cs c2 (by simpa using h2)
        obtain ⟨qo, qs⟩ := q
        simp only at h3 h4 h5
        simp only [Instr.fill, hq]
        have h6 : p.2.cells.size = qs := by rw [← h3]; simp
        rw [if_neg (by simp only [h6, ne_eq, not_true_eq_false, decide_false, Bool.false_or, decide_eq_true_eq, gt_iff_lt, List.size_toArray, Nat.not_lt]; simp at h4; omega)]
        have h7 : p.2.cells.zipIdx.foldl (fun (cs : Array Value) (x : Value × Nat) => cs.setIfInBounds (qo + x.2) x.1) cs.toArray = c2.toArray := by
          rw [← h5, ← Array.foldl_toList]
          congr 1
          simp
        rw [← ih, ← h7]
      · cases h
    · cases h
section
variable {P : Program} {ro : Option Nat} {n N : Nat} {ds : List Deferred} {w0 : World} {X : Nat → Prop} {Q : Exit → Act → World → Prop} {ops : List Oper} {σ : Slots} {η : Hp} {rest : List Oper}
variable {d : Option Tmp} {ty : TypeId} {pos : String} {aft : Array Edge} {g : Option (Nat × Bool)}
theorem WOK.owns {w : World} {e : TypeId} {sz m : Nat} {r : RowR} {xs : List Value} {η0 : Hp} (h : WOK w0 X (hpR e sz r m xs ++ η0) w) (hx : xs.length = m * sz) (h0 : r = none → m = 0) : w.ownsRow 0 e sz (valR r m) m xs := by
  refine ⟨hx, ?_⟩
  cases r with
  | none => exact .inl ⟨rfl, h0 rfl⟩
  | some p =>
    obtain ⟨o, h1, cur, rfl, h2, h3, h4, h5⟩ := h.bl (p.1, true, orow e sz m p.2 xs) (List.mem_append_left _ (List.mem_cons_self ..))
    exact .inr ⟨p.1, p.2, cur, rfl, Nat.zero_le _, h1, h2, h3, h4, h5⟩
/-- append of one element that lies in a block of its own; the row stands first but for that block -/
theorem xo_app (T : TysR P) {t e : TypeId} {s x : Operand} {z : Value} {sz by_ m : Nat} {r : RowR} {xs news : List Value} {b : Nat} {wr : Bool} {η0 : Hp} (hg : gS ops σ g = some true) (ht : look t T.el = some e) (hi : look e T.inf = some (z, sz, by_)) (hzs : z.cells.toList.length = sz) (hsz : Nat.blt 0 sz = true)
    (hs : ev σ s = some (valR r m)) (hx : ev σ x = some (.slice (some ⟨b, 0, none⟩) 1 1)) (hη : η = (b, wr, cel news e) :: (hpR e sz r m xs ++ η0)) (hl : xs.length = m * sz) (hn : news.length = sz) (h1 : news.all (·.oneCell') = true) (h0 : r = none → m = 0)
    (hb : (m + 1) * by_ ≤ 140737488355328) (hb0 : Nat.blt 0 by_ = true) (hN : dstOK N d = true)
    (h : ∀ r' : RowR, r' ≠ none → XO P ro n N ds w0 X Q ops (putS d (valR r' (m + 1)) σ) (hpR e sz r' (m + 1) (xs ++ news) ++ η0) rest) :
    XO P ro n N ds w0 X Q ops σ η (⟨d, .call { callee := .builtin .append, args := #[s, x], argTypes := #[t, t] }, ty, pos, aft, g⟩ :: rest) := by
  subst hη
  refine xo_base rfl hg fun a w ha hw => ?_
  have hT := T.hel _ (look_mem ht)
  obtain ⟨i, hi1, hi2⟩ := Option.map_eq_some_iff.1 (T.hinf _ (look_mem hi))
  simp only [Prod.mk.injEq] at hi2
  obtain ⟨iz, isz, iby⟩ := hi2
  have hw' := hw.sub (List.sublist_cons_self _ _)
  have hown := hw'.owns hl h0
  have hb1 : 0 < by_ := by simpa [Nat.blt_eq] using hb0
  have hlen : m + 1 ≤ 140737488355328 := Nat.le_trans (Nat.le_mul_of_pos_right _ hb1) hb
  obtain ⟨v', w', hr, own', hgr, hnil, hat⟩ := run_append_own_at (P := P) w 0 t ty e i z sz by_ hT hi1 iz isz iby (by simpa using hzs) (by simpa [Nat.blt_eq] using hsz) (valR r m) m xs hown ⟨b, 0, none⟩ 1 1 news (by omega)
    (fun j u hj => by rw [Addr.add_lit, Nat.zero_add]; exact hw.cell (List.mem_cons_self ..) j hj) (by simpa using h1) (by simp only [maxLen]; omega) hb (Nat.zero_le _)
  obtain ⟨h2, h3⟩ := own'
  rcases h3 with ⟨_, h3⟩ | ⟨g', cap', cur, rfl, _, h4, h5, h6, h7, h8⟩
  · exact absurd h3 (by omega)
  refine ⟨.value (.slice (some ⟨g', 0, none⟩) (m + 1) cap'), w', _, ?_, .inl rfl, h (some (g', cap')) (by simp) _ _ (ha.put hN _) ?_⟩
  · simp only [execOp, resolve, invoke, builtin, Sem.run_bind, Sem.run_pure, Result.andThen_ok, List.map_toArray, List.map_cons, List.map_nil, ha.ev hs, ha.ev hx, hr]
  · have hη0 := hw'.sub (List.sublist_append_right (hpR e sz r m xs) η0)
    have hold : ∀ k, k < w.heap.size → (∀ p, r = some p → k ≠ p.1) → w'.heap[k]? = w.heap[k]? := fun k hk hne => hgr.block k hk (fun e' => by
      cases r with
      | none => simp [valR, Value.ownBlock] at e'
      | some p => simp [valR, Value.ownBlock] at e'; exact hne p rfl e')
    have hne0 : ∀ e' ∈ η0, ∀ p, r = some p → e'.1 ≠ p.1 := fun e' he p hp q => by
      subst hp
      have hnd := hw'.nd
      simp only [hpR, List.cons_append, List.nil_append, List.map_cons, List.nodup_cons] at hnd
      exact hnd.1 (List.mem_map.2 ⟨e', he, q⟩)
    have hrow : ∀ p, r = some p → w0.heap.size ≤ p.1 ∨ X p.1 := fun p hp => by
      subst hp
      exact hw'.ow (p.1, true, orow e sz m p.2 xs) (List.mem_append_left _ (List.mem_cons_self ..)) rfl
    have hg' : (∃ p, r = some p ∧ g' = p.1) ∨ g' = w.heap.size := by
      rcases hat with hat | hat
      · left
        cases r with
        | none => simp [valR, Value.ownBlock] at hat
        | some p => simp [valR, Value.ownBlock] at hat; exact ⟨p, rfl, hat⟩
      · right
        simpa [Value.ownBlock] using hat
    refine ⟨⟨hgr.os.trans hη0.kx.os, hgr.tape.trans hη0.kx.tape, hgr.output.trans hη0.kx.output, Nat.le_trans hη0.kx.size hgr.size, fun k hk hx => ?_⟩, ?_, ?_, ?_⟩
    · refine (hold k (Nat.lt_of_lt_of_le hk hη0.kx.size) (fun p hp q => ?_)).trans (hη0.kx.block k hk hx)
      subst q
      rcases hrow p hp with h9 | h9
      · exact absurd hk (Nat.not_lt.2 h9)
      · exact hx h9
    · intro e' he
      rcases List.mem_append.1 he with he | he
      · simp only [hpR, List.mem_singleton] at he
        subst he
        exact ⟨_, h4, cur, rfl, h5, h6, h7, h8⟩
      · obtain ⟨o, h9, h10⟩ := hη0.bl e' he
        exact ⟨o, (hold _ (hη0.lt he) (hne0 e' he)).trans h9, h10⟩
    · simp only [hpR, List.cons_append, List.nil_append, List.map_cons, List.nodup_cons]
      refine ⟨fun hm => ?_, hη0.nd⟩
      obtain ⟨e', he, q⟩ := List.mem_map.1 hm
      rcases hg' with ⟨p, hp, hg'⟩ | hg'
      · exact hne0 e' he p hp (q.trans hg')
      · have := hη0.lt he
        omega
    · intro e' he hwr
      rcases List.mem_append.1 he with he | he
      · simp only [hpR, List.mem_singleton] at he
        subst he
        rcases hg' with ⟨p, hp, hg'⟩ | hg'
        · rw [show g' = p.1 from hg']; exact hrow p hp
        · exact .inl (by rw [show g' = _ from hg']; exact hη0.kx.size)
      · exact hη0.ow e' he hwr
theorem xo_build (T : TysB P) {t : TypeId} {parts : List (Nat × Operand)} {pl : List (Nat × Nat)} {z : Array Value} {ps : List (Nat × Value)} {cs : List Value} (hg : gS ops σ g = some true) (ht : look t T.bl = some (pl, z)) (hp : evp σ parts = some ps) (hc : fillL pl z.toList ps = some cs) (hN : dstOK N d = true)
    (h : XO P ro n N ds w0 X Q ops (putS d (.agg cs.toArray) σ) η rest) : XO P ro n N ds w0 X Q ops σ η (⟨d, .build t parts.toArray, ty, pos, aft, g⟩ :: rest) :=
  xo_val _ rfl hg hN (fun a w ha hw => by
    have h1 := fillL_eq pl ps z.toList cs hc
    simp only [Array.toArray_toList] at h1
    have h2 := T.hbl _ (look_mem ht) ps.toArray cs.toArray w (by simpa using h1)
    have h3 := ha.evp hp
    simp only [execOp, List.map_toArray, Sem.run_bind]
    rw [show (parts.map fun (i, x) => (i, a.eval x)) = ps from h3, h2]
    rfl) h
/-- make of a row of one-cell elements -/
theorem xo_mks (T : TysR P) {t e : TypeId} {x y : Operand} {z : Value} {by_ m : Nat} (hg : gS ops σ g = some true) (ht : look t T.el = some e) (hi : look e T.inf = some (z, 1, by_)) (hzc : z.cells = #[z]) (hx : ev σ x = some (.int .i64 (m : Int))) (hy : ev σ y = some (.int .i64 (m : Int))) (hb : by_ * m ≤ 281474976710656) (hm : m ≤ 9223372036854775807) (hN : dstOK N d = true)
    (h : ∀ b, XO P ro n N ds w0 X Q ops (putS d (.slice (some ⟨b, 0, none⟩) m m) σ) ((b, true, cel (List.replicate m z) e) :: η) rest) : XO P ro n N ds w0 X Q ops σ η (⟨d, .makeSlice t x y, ty, pos, aft, g⟩ :: rest) :=
  xo_base rfl hg fun a w ha hw => by
    have hr := run_make_row' (P := P) t e z by_ (T.hel _ (look_mem ht)) (T.hinf _ (look_mem hi)) hzc .i64 .i64 m hb hm w
    refine ⟨_, w.alloc (.cells (madeCells #[z] m) e), .slice (some ⟨w.heap.size, 0, none⟩) m m, ?_, .inl rfl, h _ _ _ (ha.put hN _) (hw.alloc _ _ ?_)⟩
    · simp only [execOp, ha.ev hx, ha.ev hy, Sem.run_bind, hr, Result.andThen_ok]
      rfl
    · show Obj.cells _ _ _ = _
      congr 1
      apply Array.ext'
      apply List.ext_getElem
      · simp [madeCells]
      · intro i h1 h2
        simp [madeCells, Nat.mod_one]
/-- an element at a computed place of a block of the call's own -/
theorem xo_loadI (T : Tys P) {t : TypeId} {x : Operand} {b o k : Nat} {wr : Bool} {cs : List Value} {te : TypeId} {v : Value} (hg : gS ops σ g = some true) (ht : look t T.tk = some 0) (hx : ev σ x = some (.pointer (some (Addr.add ⟨b, o, none⟩ k)))) (hm : (b, wr, cel cs te) ∈ η) (hv : cs[o + k]? = some v) (hN : dstOK N d = true)
    (h : XO P ro n N ds w0 X Q ops (putS d v σ) η rest) : XO P ro n N ds w0 X Q ops σ η (⟨d, .load t x, ty, pos, aft, g⟩ :: rest) :=
  xo_val v rfl hg hN (fun a w ha hw => by
    have h1 := (T.htk _ (look_mem ht)).1 w
    have h2 := hw.cell hm (o + k) hv
    have h3 := ha.ev hx
    rw [Addr.add_lit] at h3
    simp [execOp, h3, Instr.loadAt, Instr.sureAddr, loadVar, h1, h2]) h
theorem xo_storeI (T : Tys P) {t : TypeId} {p x : Operand} {b o k : Nat} {cs : List Value} {te : TypeId} {v : Value} {η' : Hp} (hg : gS ops σ g = some true) (ht : look t T.tk = some 0) (hp : ev σ p = some (.pointer (some (Addr.add ⟨b, o, none⟩ k)))) (hx : ev σ x = some v)
    (hm : (b, true, cel cs te) ∈ η) (hv : v.cells = #[v]) (h1 : v.oneCell' = true) (hlt : o + k < cs.length) (hU : Upd b (cel (cs.set (o + k) v) te) η η') (hN : dstOK N d = true)
    (h : XO P ro n N ds w0 X Q ops (putS d undef σ) η' rest) : XO P ro n N ds w0 X Q ops σ η (⟨d, .store t p x, ty, pos, aft, g⟩ :: rest) :=
  xo_base rfl hg fun a w ha hw => by
    have h2 : (sizeOf t).run P w = .ok 1 w := (T.htk _ (look_mem ht)).2 w
    have hb := hw.obj hm
    have hcell : w.cell? ⟨b, o + k, none⟩ = some (cs[o + k]'hlt) := by
      rw [cell_of_row w b (o + k) _ te _ hb]
      simp [List.getElem?_eq_getElem hlt]
    have hfz : w.frozen? ⟨b, o + k, none⟩ = false := frozen_of_row w b (o + k) _ te hb
    have hst : (store ⟨b, o + k, none⟩ v .plain).run P w = .ok () (w.setCell ⟨b, o + k, none⟩ v) := by
      rw [run_store P w _ v _ h1, hcell]
      simp [hfz]
    have hb' : (w.setCell ⟨b, o + k, none⟩ v).heap[b]? = some (.cells (cs.set (o + k) v).toArray te (0, 0)) := by
      rw [heap_setCell_same w b (o + k) _ te v hb]
      simp
    have h3 := ha.ev hp
    rw [Addr.add_lit] at h3
    refine ⟨.skip, _, undef, ?_, .inr ⟨rfl, rfl⟩, h _ _ (ha.put hN _) (hw.upd hU (OneB.setCell w b (o + k) v) hb' rfl)⟩
    simp only [execOp, h3, ha.ev hx, Instr.storeAt, Instr.sureAddr, storeVar, Sem.run_bind, Sem.run_pure, Result.andThen_ok, h2, hv, List.size_toArray, List.length_cons, List.length_nil, ne_eq, not_true_eq_false, ↓reduceIte, storeCells, Addr.add_zero', hst]
/-- an element of a row that has been appended to -/
theorem xo_loadO (T : Tys P) {t : TypeId} {x : Operand} {b m cap k : Nat} {wr : Bool} {xs : List Value} {te : TypeId} {v : Value} (hg : gS ops σ g = some true) (ht : look t T.tk = some 0) (hx : ev σ x = some (.pointer (some (Addr.add ⟨b, 0, none⟩ k)))) (hm : (b, wr, orow te 1 m cap xs) ∈ η) (hv : xs[k]? = some v) (hN : dstOK N d = true)
    (h : XO P ro n N ds w0 X Q ops (putS d v σ) η rest) : XO P ro n N ds w0 X Q ops σ η (⟨d, .load t x, ty, pos, aft, g⟩ :: rest) :=
  xo_val v rfl hg hN (fun a w ha hw => by
    have h1 := (T.htk _ (look_mem ht)).1 w
    obtain ⟨o, h4, cur, rfl, h5, h6, h7, h8⟩ := hw.bl _ hm
    have h2 : w.cell? ⟨b, k, none⟩ = some v := by
      rw [cell_of_row w b k _ te _ h4, ← Array.getElem?_toList]
      rw [← h8] at hv
      rw [List.getElem?_take] at hv
      split at hv
      · exact hv
      · cases hv
    have h3 := ha.ev hx
    rw [Addr.add_lit, Nat.zero_add] at h3
    simp [execOp, h3, Instr.loadAt, Instr.sureAddr, loadVar, h1, h2]) h
end
end Go.Proofs.Ytcmepdamemnbkaa
namespace Go.Proofs.Ytcmepdamemnbkaa
open Go.RowKit
set_option linter.unusedVariables false
set_option linter.unusedSimpArgs false
section
variable {P : Program} {ro : Option Nat} {n N : Nat} {ds : List Deferred} {w0 : World} {X : Nat → Prop} {Q : Exit → Act → World → Prop} {ops : List Oper} {σ : Slots} {η : Hp} {rest : List Oper}
variable {d : Option Tmp} {ty : TypeId} {pos : String} {aft : Array Edge} {g : Option (Nat × Bool)}
/-- a store into a row that has been appended to -/
theorem xo_storeO (T : Tys P) {t : TypeId} {p x : Operand} {b k m cap : Nat} {xs : List Value} {te : TypeId} {v : Value} {η' : Hp} (hg : gS ops σ g = some true) (ht : look t T.tk = some 0) (hp : ev σ p = some (.pointer (some (Addr.add ⟨b, 0, none⟩ k)))) (hx : ev σ x = some v)
    (hm : (b, true, orow te 1 m cap xs) ∈ η) (hv : v.cells = #[v]) (h1 : v.oneCell' = true) (hlt : k < m) (hU : Upd b (orow te 1 m cap (xs.set k v)) η η') (hN : dstOK N d = true)
    (h : XO P ro n N ds w0 X Q ops (putS d undef σ) η' rest) : XO P ro n N ds w0 X Q ops σ η (⟨d, .store t p x, ty, pos, aft, g⟩ :: rest) :=
  xo_base rfl hg fun a w ha hw => by
    have h2 : (sizeOf t).run P w = .ok 1 w := (T.htk _ (look_mem ht)).2 w
    obtain ⟨o, h4, cur, rfl, h5, h6, h7, h8⟩ := hw.bl _ hm
    have hkc : k < cur.size := by omega
    have hcell : w.cell? ⟨b, k, none⟩ = some (cur[k]'hkc) := by
      rw [cell_of_row w b k _ te _ h4]
      simp [Array.getElem?_eq_getElem hkc]
    have hfz : w.frozen? ⟨b, k, none⟩ = false := frozen_of_row w b k _ te h4
    have hst : (store ⟨b, k, none⟩ v .plain).run P w = .ok () (w.setCell ⟨b, k, none⟩ v) := by
      rw [run_store P w _ v _ h1, hcell]
      simp [hfz]
    have hb' : (w.setCell ⟨b, k, none⟩ v).heap[b]? = some (.cells (cur.setIfInBounds k v) te (0, 0)) := heap_setCell_same w b k _ te v h4
    have h3 := ha.ev hp
    rw [Addr.add_lit, Nat.zero_add] at h3
    refine ⟨.skip, _, undef, ?_, .inr ⟨rfl, rfl⟩, h _ _ (ha.put hN _) (hw.upd hU (OneB.setCell w b k v) hb' ⟨_, rfl, h5, h6, by simpa using h7, ?_⟩)⟩
    · simp only [execOp, h3, ha.ev hx, Instr.storeAt, Instr.sureAddr, storeVar, Sem.run_bind, Sem.run_pure, Result.andThen_ok, h2, hv, List.size_toArray, List.length_cons, List.length_nil, ne_eq, not_true_eq_false, ↓reduceIte, storeCells, Addr.add_zero', hst]
    · rw [Array.toList_setIfInBounds, ← h8, List.take_set]
/-- from a place on -/
theorem xo_sliceLo (T : Tys P) {t e : TypeId} {x lo : Operand} {b m cap i : Nat} (hg : gS ops σ g = some true) (ht : look t T.el = some e) (hk : look e T.tk = some 0) (hx : ev σ x = some (.slice (some ⟨b, 0, none⟩) m cap)) (hl : ev σ lo = some (.int .i64 (i : Int))) (hi : i ≤ m) (hc : i < cap) (hN : dstOK N d = true)
    (h : XO P ro n N ds w0 X Q ops (putS d (.slice (some ⟨b, i, none⟩) (m - i) (cap - i)) σ) η rest) : XO P ro n N ds w0 X Q ops σ η (⟨d, .slice t x (some lo) none none, ty, pos, aft, g⟩ :: rest) :=
  xo_val _ rfl hg hN (fun a w ha hw => by
    have h1 := T.hel _ (look_mem ht)
    simp only at h1
    have h2 : (sizeOf e).run P w = .ok 1 w := (T.htk _ (look_mem hk)).2 w
    have hel : P.elem t = e := by simp [Program.elem, h1]
    have hu : P.underlying t = some (.slice (P.elem t)) := by rw [hel]; exact h1
    have h3 := run_slice_l (P := P) w t (some ⟨b, 0, none⟩) m cap hu .i64 (i : Int) (by omega) (by omega)
    rw [hel, h2] at h3
    simp only [execOp, Option.map_some, Option.map_none, ha.ev hx, ha.ev hl, Sem.run_bind, run_sliceAt_slice (P := P) w t _ _ _ _ hu, h3, Result.andThen_ok, sliced]
    have : ¬ cap = i := by omega
    simp [this, Addr.add_lit]) h
/-- up to a place -/
theorem xo_sliceHi (T : Tys P) {t e : TypeId} {x hi_ : Operand} {b m cap i : Nat} (hg : gS ops σ g = some true) (ht : look t T.el = some e) (hk : look e T.tk = some 0) (hx : ev σ x = some (.slice (some ⟨b, 0, none⟩) m cap)) (hl : ev σ hi_ = some (.int .i64 (i : Int))) (hc : i ≤ cap) (hN : dstOK N d = true)
    (h : XO P ro n N ds w0 X Q ops (putS d (.slice (some ⟨b, 0, none⟩) i cap) σ) η rest) : XO P ro n N ds w0 X Q ops σ η (⟨d, .slice t x none (some hi_) none, ty, pos, aft, g⟩ :: rest) :=
  xo_val _ rfl hg hN (fun a w ha hw => by
    have h1 := T.hel _ (look_mem ht)
    simp only at h1
    have h2 : (sizeOf e).run P w = .ok 1 w := (T.htk _ (look_mem hk)).2 w
    have hel : P.elem t = e := by simp [Program.elem, h1]
    have hu : P.underlying t = some (.slice (P.elem t)) := by rw [hel]; exact h1
    have h3 := run_slice_h (P := P) w t (some ⟨b, 0, none⟩) m cap hu .i64 (i : Int) (by omega) (by omega)
    rw [hel, h2] at h3
    simp only [execOp, Option.map_some, Option.map_none, ha.ev hx, ha.ev hl, Sem.run_bind, run_sliceAt_slice (P := P) w t _ _ _ _ hu, h3, Result.andThen_ok, sliced]
    simp [Addr.add_zero']) h
theorem setSeg_ok : ∀ (i : Nat) (vs cs : List Value), i + vs.length ≤ cs.length → ∃ cs', setSeg i vs cs = some cs' ∧ cs'.length = cs.length ∧ cs'.take i = cs.take i := by
  intro i
  induction i with
  | zero =>
    intro vs
    induction vs with
    | nil => intro cs _; exact ⟨cs, by simp [setSeg], rfl, rfl⟩
    | cons v vs ih =>
      intro cs h
      cases cs with
      | nil => simp at h
      | cons x r =>
        obtain ⟨c', h1, h2, _⟩ := ih r (by simp at h ⊢; omega)
        exact ⟨v :: c', by simp [setSeg, h1], by simp [h2], by simp⟩
  | succ i ih =>
    intro vs cs h
    cases cs with
    | nil => simp at h
    | cons x r =>
      obtain ⟨c', h1, h2, h3⟩ := ih vs r (by simp at h ⊢; omega)
      exact ⟨x :: c', by simp [setSeg, h1], by simp [h2], by simp [h3]⟩
/-- the rest is cleared: what lies ahead of it stays -/
theorem xo_clear (T : Tys P) {t e : TypeId} {x : Operand} {b m cap i k c : Nat} {xs : List Value} {z : Value} {η' : Hp} (hg : gS ops σ g = some true) (ht : look t T.el = some e) (hz : look e T.zs = some z) (hzc : z.cells = #[z]) (hz1 : z.oneCell' = true) (hx : ev σ x = some (.slice (some ⟨b, i, none⟩) k c)) (hk : i + k = m) (hkp : 0 < k)
    (hm : (b, true, orow e 1 m cap xs) ∈ η) (hU : Upd b (orow e 1 i cap (xs.take i)) η η') (hN : dstOK N d = true)
    (h : XO P ro n N ds w0 X Q ops (putS d (.tuple #[]) σ) η' rest) : XO P ro n N ds w0 X Q ops σ η (⟨d, .call { callee := .builtin .clear, args := #[x], argTypes := #[t] }, ty, pos, aft, g⟩ :: rest) :=
  xo_base rfl hg fun a w ha hw => by
    have h1 := T.hel _ (look_mem ht)
    have h3 := T.hzs _ (look_mem hz) w
    simp only at h1 h3
    obtain ⟨o, h4, cur, rfl, h5, h6, h7, h8⟩ := hw.bl _ hm
    have hzl : (Builtin.zeroCells z.cells k).toList.length = k := by
      have := size_zeroCells z.cells k
      rw [hzc] at this ⊢
      simpa using this
    have hall : ∀ v ∈ (Builtin.zeroCells z.cells k).toList, v.oneCell' = true := by
      intro v hv
      rw [hzc] at hv
      simp only [Builtin.zeroCells, Array.toList_map, List.mem_map, Nat.mod_one] at hv
      obtain ⟨j, _, rfl⟩ := hv
      simp [hz1, Nat.mod_one]
    obtain ⟨cs', hs, hl', ht'⟩ := setSeg_ok i (Builtin.zeroCells z.cells k).toList cur.toList (by rw [hzl]; simp; omega)
    obtain ⟨w', hr, ho, hb⟩ := run_storeCells (P := P) b e (Builtin.zeroCells z.cells k).toList cur.toList i 0 cs' w hall hs (by simpa using h4)
    refine ⟨_, w', .tuple #[], ?_, .inl rfl, h _ _ (ha.put hN _) (hw.upd hU ho hb ⟨cs'.toArray, rfl, by omega, h6, by simp [hl', h7], ?_⟩)⟩
    · obtain ⟨k', rfl⟩ : ∃ q, k = q + 1 := ⟨k - 1, by omega⟩
      simp [execOp, resolve, invoke, builtin, Builtin.clear_, run_underlying h1, h3, ha.ev hx, hr]
    · simp only [Nat.mul_one]
      rw [ht', ← h8, Nat.mul_one, List.take_take, Nat.min_eq_left (by omega)]
/-- a row of which fewer elements are looked at -/
theorem orow_take {e : TypeId} {m cap i : Nat} {xs : List Value} (hi : i ≤ m) {o : Obj} (h : orow e 1 m cap xs o) : orow e 1 i cap (xs.take i) o := by
  obtain ⟨cur, h1, h2, h3, h4, h5⟩ := h
  refine ⟨cur, h1, by omega, h3, h4, ?_⟩
  rw [← h5, Nat.mul_one, Nat.mul_one, List.take_take, Nat.min_eq_left hi]
end
end Go.Proofs.Ytcmepdamemnbkaa
