/- SX: iterators: one that yields, and a range over one. No program in sight. -/
import Derived.Test.YtcmepdamemnbkaaSD
import Derived.RangeFuncNested
import Derived.RangeFuncLeaves
namespace Go.Proofs.Ytcmepdamemnbkaa
open Go.RowKit
set_option linter.unusedVariables false
set_option linter.unusedSimpArgs false
theorem wide_eq : wideR none = Fence.wide := rfl
/-- blocks as told, each another one -/
structure BOK (η : Hp) (w : World) : Prop where
  bl : ∀ e ∈ η, ∃ o, w.heap[e.1]? = some o ∧ e.2.2 o
  nd : (η.map (·.1)).Nodup
theorem WOK.bok {w0 : World} {X : Nat → Prop} {η η' : Hp} {w : World} (h : WOK w0 X η w) (hs : List.Sublist η' η) : BOK η' w := ⟨(h.sub hs).bl, (h.sub hs).nd⟩
/-- the blocks that may be written -/
def XW (η : Hp) : Nat → Prop := fun k => ∃ e ∈ η, e.2.1 = true ∧ e.1 = k
theorem BOK.wok {η : Hp} {w : World} (h : BOK η w) : WOK w (XW η) η w := ⟨Kx.refl _ w, h.bl, h.nd, fun e he hw => .inr ⟨e, he, hw, rfl⟩⟩
theorem WOK.wok {w0 : World} {X : Nat → Prop} {η : Hp} {w : World} (h : WOK w0 X η w) : WOK w (XW η) η w := (h.bok (List.Sublist.refl _)).wok
/-- back on the elder base -/
theorem WOK.back {w0 w1 : World} {X : Nat → Prop} {η η' : Hp} {w : World} (h0 : WOK w0 X η w1) (h : WOK w1 (XW η) η' w) : WOK w0 X η' w := by
  have hx : ∀ k, XW η k → w0.heap.size ≤ k ∨ X k := fun k ⟨e, he, hw, hk⟩ => hk ▸ h0.ow e he hw
  refine ⟨⟨h.kx.os.trans h0.kx.os, h.kx.tape.trans h0.kx.tape, h.kx.output.trans h0.kx.output, Nat.le_trans h0.kx.size h.kx.size, fun k hk hnx => ?_⟩, h.bl, h.nd, fun e he hw => ?_⟩
  · refine (h.kx.block k (Nat.lt_of_lt_of_le hk h0.kx.size) (fun q => ?_)).trans (h0.kx.block k hk hnx)
    rcases hx k q with h3 | h3
    · exact absurd hk (Nat.not_lt.2 h3)
    · exact hnx h3
  · rcases h.ow e he hw with h3 | h3
    · exact .inl (Nat.le_trans h0.kx.size h3)
    · exact hx _ h3
/-- below the end of wB all is as it was there -/
def SameB (wB w : World) : Prop := ∀ k, k < wB.heap.size → w.heap[k]? = wB.heap[k]?
theorem SameB.of_below {wB w : World} (h : Below wB.heap.size wB w) : SameB wB w := h.block
theorem SameB.kx {wB w w1 : World} {X : Nat → Prop} (h : SameB wB w) (hs : wB.heap.size ≤ w.heap.size) (k : Kx X w w1) (hX : ∀ b, X b → wB.heap.size ≤ b) : SameB wB w1 := fun i hi => (k.block i (Nat.lt_of_lt_of_le hi hs) (fun q => absurd hi (Nat.not_lt.2 (hX i q)))).trans (h i hi)
theorem SameB.cell {wB w : World} (h : SameB wB w) {p : Addr} {v : Value} (hc : wB.cell? p = some v) : w.cell? p = some v := by
  have hb := World.block_lt_of_cell? wB p hc
  unfold World.cell? at hc ⊢
  rw [h _ hb]
  exact hc
theorem RO.same {wB w : World} {X : Nat → Prop} {p : Addr} {cs : List Value} (h : RO wB XNone p cs) (hs : SameB wB w) (hX : ∀ b, X b → wB.heap.size ≤ b) : RO w X p cs := fun j v hj => by
  have h1 := (h j v hj).1
  exact ⟨hs.cell h1, fun q => absurd (World.block_lt_of_cell? wB _ h1) (Nat.not_lt.2 (hX _ q))⟩
/-- what a round keeps for the iterator -/
def KpK (K : Nat → Prop) (n0 : Nat) (W W' : World) : Prop := (∀ k, K k → W'.heap[k]? = W.heap[k]?) ∧ W.heap.size ≤ W'.heap.size ∧ (∀ k o, n0 ≤ k → W.heap[k]? = some o → o.isWalk = true → W'.heap[k]? = some o)
theorem KpK.refl (K : Nat → Prop) (n0 : Nat) (W : World) : KpK K n0 W W := ⟨fun _ _ => rfl, Nat.le_refl _, fun _ _ _ h _ => h⟩
theorem KpK.trans {K : Nat → Prop} {n0 : Nat} {A B C : World} (h : KpK K n0 A B) (k : KpK K n0 B C) : KpK K n0 A C := ⟨fun i hi => (k.1 i hi).trans (h.1 i hi), Nat.le_trans h.2.1 k.2.1, fun i o hi ho hw => k.2.2 i o hi (h.2.2 i o hi ho hw) hw⟩
section
variable {P : Program} {ro : Option Nat} {n N : Nat} {ds : List Deferred} {w0 : World} {X : Nat → Prop} {Q : Exit → Act → World → Prop} {ops : List Oper} {σ : Slots} {η : Hp} {rest : List Oper}
variable {d : Option Tmp} {ty : TypeId} {pos : String} {aft : Array Edge} {g : Option (Nat × Bool)}
/-- a yield: the world behind it is a new base -/
theorem xo_yield {l : Nat} {fo : Operand} {xs : List Operand} {ats : Array TypeId} {vs : List Value} (hg : gS ops σ g = some true) (hf : ev σ fo = some (.func (.yield l) #[] #[])) (ha_ : evs σ xs = some vs) (hN : dstOK N d = true)
    (hy : ∀ w, WOK w0 X η w → YieldAt (wideR ro) (n - 1) P l vs.toArray w fun e W' => ∃ v η' w1 X1, e = .returned v ∧ WOK w1 X1 η' W' ∧ XO P ro n N ds w1 X1 Q ops (putS d v σ) η' rest) :
    XO P ro n N ds w0 X Q ops σ η (⟨d, .call { callee := .value fo, args := xs.toArray, argTypes := ats }, ty, pos, aft, g⟩ :: rest) := by
  intro a w ha hw
  unfold wpListIn
  rw [if_pos (wanted_of ha (o := ⟨d, .call { callee := .value fo, args := xs.toArray, argTypes := ats }, ty, pos, aft, g⟩) hg)]
  refine ⟨fun _ _ => trivial, ?_⟩
  rw [show (wideR ro).round = ro from rfl, Oper.semAt_eq ro _ _ (fun c e => by cases e)]
  obtain ⟨fn, tmps, assign, body, hr, hR⟩ := hy w hw
  have hrun : (execOp a.eval ⟨d, .call { callee := .value fo, args := xs.toArray, argTypes := ats }, ty, pos, aft, g⟩).run P w = .ok (.round l fn tmps assign body) w := by
    simp [execOp, resolve, Deferred.ofValue, invoke, ha.ev hf, ha.evs ha_, hr]
  rw [hrun]
  refine ⟨(fun h => by cases h), hR.mono ?_⟩
  rintro e w' ⟨v, η', w1, X1, rfl, hw', hk⟩
  exact hk _ _ (ha.put hN v) hw'
/-- a loop whose relation speaks of the world; each round has its own base -/
theorem xc_loopJ {γ : Type} {c : Code} (C : γ → Prop) (S : γ → Slots) (H : γ → Hp) (J : γ → World → Prop) (μ : γ → Nat) (g0 : γ) (hC : C g0) (hs : subS (S g0) σ) (h0 : ∀ w, WOK w0 X η w → BOK (H g0) w ∧ J g0 w)
    (round : ∀ g, C g → ∀ w, BOK (H g) w → J g w → XC P ro n N ds w (XW (H g)) (Exit.then (fun a w => ∃ k, k < μ g ∧ ∃ g', C g' ∧ μ g' = k ∧ SOK N ds (S g') a ∧ BOK (H g') w ∧ J g' w) Q) (S g) (H g) c) : XC P ro n N ds w0 X Q σ η (.loop c) := by
  intro a w ha hw
  obtain ⟨hb, hj⟩ := h0 w hw
  refine wpIn_loop_ghost (fun k a w => ∃ g', C g' ∧ μ g' = k ∧ SOK N ds (S g') a ∧ BOK (H g') w ∧ J g' w) (μ g0) ⟨g0, hC, rfl, ha.sub hs, hb, hj⟩ ?_
  rintro k a w ⟨g, hg, rfl, h1, h2, h3⟩
  exact round g hg w h2 h3 a w h1 h2.wok
theorem xq_againJ {γ : Type} (C : γ → Prop) (S : γ → Slots) (H : γ → Hp) (J : γ → World → Prop) (μ : γ → Nat) (m : Nat) (g' : γ) (hC : C g') (hm : μ g' < m) (hs : subS (S g') σ) (h : ∀ w, WOK w0 X η w → BOK (H g') w ∧ J g' w) :
    XQ N ds w0 X (Exit.then (fun a w => ∃ k, k < m ∧ ∃ g', C g' ∧ μ g' = k ∧ SOK N ds (S g') a ∧ BOK (H g') w ∧ J g' w) Q) .normal σ η :=
  fun a w ha hw => ⟨_, hm, g', hC, rfl, ha.sub hs, (h w hw).1, (h w hw).2⟩
end
/-- an iterator over whole numbers: what it yields, from whatever world that is as wB is at the blocks that it needs -/
def Iter (P : Program) (g : Nat) (cs : List Value) (wB : World) (need : Nat → Prop) (xs : List Int) : Prop :=
  ∀ (w : World), wB.heap.size ≤ w.heap.size → (∀ k, need k → w.heap[k]? = wB.heap[k]?) → ∀ (K : Nat → Prop), (∀ k, need k → K k) → ∀ m : Nat,
    SeqStopsK Fence.wide m P g cs.toArray (fun x : Int => #[.int .i64 x]) (KpK K w.heap.size) (fun ys => ys = xs) (fun _ => True) xs.length w
theorem x_iter {P : Program} {g : Nat} {fn : Func} {c : Code} {cs : List Value} {m : Nat} {W : World} {R : Ending → World → Prop} {X : Nat → Prop} {η : Hp} {l : Nat} (hf : P.funcs[g]? = some fn) (hb : fn.body = some c) {N : Nat} (hn : fn.ntmps = N) (hl : Nat.ble (cs.length + 1) N = true) (hw : WOK W X η W)
    (h : XC P none m N [] W X (bodyPost P fn R) (argS 0 (.func (.yield l) #[] #[] :: cs)) η c) : CallsIn Fence.wide m P g (#[.func (.yield l) #[] #[]] ++ cs.toArray) W R := by
  subst hn
  have := callsIn_of_wp (F := Fence.wide) (n := m) (args := (.func (.yield l) #[] #[] :: cs).toArray) hf hb trivial (h _ W (SOK.args _ _ (by simpa using Nat.le_of_ble_eq_true hl)) hw) rfl
  simpa using this
/-- the mark of a range over a function -/
def mark_ (D : Nat) : Deferred := { target := .collected D, args := #[] }
def hdef : HP := fun o => o = .deferred (some [])
section
variable {P : Program} {n N : Nat} {ds : List Deferred} {w0 : World} {Q : Exit → Act → World → Prop} {σ : Slots} {η : Hp}
/-- one round of a range over an iterator -/
def RoundPost (N : Nat) (W : World) (η : Hp) (I : World → Prop) : Exit → Act → World → Prop
  | .normal, _, w => I w
  | _, _, _ => False
theorem xc_range {go : Operand} {p : Tmp} {assign body : Code} {gf : Nat} {cs : List Value} {xs : List Int} (hn : 3 ≤ n) (hg : ev σ go = some (.func (.func gf) #[] cs.toArray)) (eg : ∀ args w, (callFunc gf args).run P w = .ok (.enter gf args) w) (hp : Nat.blt p N = true)
    (K : Nat → Prop) (hKlt : ∀ w, WOK w0 XNone η w → ∀ k, K k → k < w.heap.size) (hseq : ∀ w, WOK w0 XNone η w → SeqStopsK Fence.wide (n - 1) P gf cs.toArray (fun x : Int => #[.int .i64 x]) (KpK K w.heap.size) (fun ys => ys = xs) (fun _ => True) xs.length w)
    {γ : Type} (C : List Int → γ → Prop) (H : List Int → γ → Hp) (g0 : γ) (hC0 : C [] g0) (hH0 : List.Sublist (H [] g0) η)
    (hcell : ∀ ys g, C ys g → ∀ e ∈ H ys g, (∀ o, e.2.2 o → o.isCells = true) ∨ ∃ e' ∈ η, e'.1 = e.1) (hwr : ∀ ys g, C ys g → ∀ e ∈ H ys g, e.2.1 = true → ¬ K e.1) (S1 : Int → Slots)
    (hassign : ∀ l x W, XC P (some l) (n - 1 - 1) N [] W XNone (Exit.then (fun a w => SOK N [] (S1 x) a ∧ Kx XNone W w) (fun _ _ _ => False)) ((p, .int .i64 x) :: σ) [] assign)
    (hbody : ∀ l ys x g W, C ys g → ys.length < xs.length → WOK w0 XNone (H ys g) W → XC P (some l) (n - 1 - 1) N [] W (XW (H ys g)) (RoundPost N W (H ys g) fun w => ∃ g', C (ys ++ [x]) g' ∧ WOK W (XW (H ys g)) (H (ys ++ [x]) g') w) (S1 x) (H ys g) body)
    (hdone : ∀ D g, C xs g → XQ N (mark_ D :: ds) w0 XNone Q .normal σ ((D, true, hdef) :: H xs g)) : XC P none n N ds w0 XNone Q σ η (.rangeFunc go #[p] assign body) := by
  intro a w ha hw
  have hlt : ∀ e ∈ η, e.1 < w.heap.size := fun e he => hw.lt he
  have hsz := hw.kx.size
  -- the relation abides what the loop's own records do
  have hI : OwnFrom w.heap.size (fun (ys : List Int) W => w.heap.size ≤ W.heap.size ∧ ∃ g, C ys g ∧ WOK w0 XNone (H ys g) W) := by
    rintro ys A B row ⟨hszA, g, hg', hA⟩ hgr hrow
    have hne : ∀ e ∈ H ys g, some e.1 ≠ row := fun e he q => by
      obtain ⟨h1, o, h2, h3⟩ := hrow e.1 q.symm
      obtain ⟨o', h4, h5⟩ := hA.bl e he
      rw [h4] at h2
      cases h2
      rcases hcell ys g hg' e he with h6 | ⟨e', h6, h7⟩
      · rw [h6 _ h5] at h3; cases h3
      · have := hlt e' h6; omega
    refine ⟨Nat.le_trans hszA hgr.size, g, hg', ⟨hgr.os.trans hA.kx.os, hgr.tape.trans hA.kx.tape, hgr.output.trans hA.kx.output, Nat.le_trans hA.kx.size hgr.size, fun k hk hx => (hgr.block k (Nat.lt_of_lt_of_le hk hA.kx.size) (fun q => ?_)).trans (hA.kx.block k hk hx)⟩, ?_, hA.nd, hA.ow⟩
    · obtain ⟨h1, _⟩ := hrow k q.symm
      omega
    · intro e he
      obtain ⟨o, h1, h2⟩ := hA.bl e he
      exact ⟨o, (hgr.block _ (hA.lt he) (hne e he)).trans h1, h2⟩
  refine wpIn_rangeFunc_ownH (F := wideR none) (w := w) (w0 := w) rfl (by omega) (gf := gf) (lb := cs.toArray) (ha.ev hg) trivial eg (hseq w hw) (fun h k => h.trans k) ?_ (Below.refl _ _) (fun _ => rfl)
    (fun ys W => w.heap.size ≤ W.heap.size ∧ ∃ g, C ys g ∧ WOK w0 XNone (H ys g) W) (fun _ _ _ => False) hI (fun _ _ _ _ _ h _ _ => h) ⟨Nat.le_refl _, g0, hC0, hw.sub hH0⟩
    (fun x a' W => SOK N [] (S1 x) a') (fun x a' _ _ _ _ h _ _ => h) ?_ ?_ ?_ ?_
  · intro W l o o' hl ho hnc hnw
    refine ⟨fun k hk => World.putObj_heap_other (fun e => ?_), by simp, fun k o1 hk h1 h2 => (World.putObj_heap_other (fun e => ?_)).trans h1⟩
    · have := hKlt w hw k hk; omega
    · subst e
      rw [ho] at h1
      cases h1
      rw [hnw] at h2
      cases h2
  · rintro l pre x W K' ⟨hszW, g, hg', hA⟩ hk
    have hs : SOK N [] ((p, .int .i64 x) :: σ) { tmps := ((#[p] : Array Tmp).zip #[Value.int .i64 x]).foldl (fun t (q : Tmp × Value) => t.setIfInBounds q.1 q.2) a.tmps, defers := [] } := by
      have h1 := ha.put (d := some p) (by simpa [dstOK] using hp) (.int .i64 x)
      exact ⟨by simpa [Act.put] using h1.sz, fun i v hv => by simpa [Act.put] using h1.sl i v hv, rfl⟩
    refine wpIn_mono (hassign l x W _ W hs (WOK.start XNone W)) ?_
    intro e a' w' hq
    cases e with
    | normal =>
      obtain ⟨h1, h2⟩ := hq
      have hb := h2.below
      exact hk a' w' ⟨hb.size, fun k o _ ho _ => (hb.block k (Array.getElem?_eq_some_iff.1 ho).1).trans ho⟩ ⟨fun k hK => hb.block k (Nat.lt_of_lt_of_le (hKlt w hw k hK) hszW), hb.size, fun k o _ ho _ => (hb.block k (Array.getElem?_eq_some_iff.1 ho).1).trans ho⟩ ⟨Nat.le_trans hszW hb.size, g, hg', hA.below hb⟩ h1
    | exit id => exact hq
    | goto l => exact hq
    | ret => exact hq
    | panic c => exact hq
    | outgrown => exact hq
  · rintro l pre x a' W hl _ ⟨hszW, g, hg', hA⟩ hax hlen
    have hxw : ∀ k o, w.heap.size ≤ k → W.heap[k]? = some o → o.isCells = false → ¬ XW (H pre g) k := by
      rintro k o hk ho hnc ⟨e, he, hwr', rfl⟩
      obtain ⟨o', h4, h5⟩ := hA.bl e he
      rw [ho] at h4
      cases h4
      rcases hcell pre g hg' e he with h6 | ⟨e', h6, h7⟩
      · rw [h6 _ h5] at hnc; cases hnc
      · have := hlt e' h6; omega
    refine wpIn_mono (hbody l pre x g W hg' hlen hA a' W hax hA.wok) ?_
    intro e a1 w' hq
    cases e with
    | normal =>
      obtain ⟨g', hg2, h2⟩ := hq
      refine ⟨⟨h2.kx.size, fun k o hk ho hnc => (h2.kx.block k (Array.getElem?_eq_some_iff.1 ho).1 (hxw k o hk ho hnc)).trans ho⟩, ⟨fun k hK => h2.kx.block k (Nat.lt_of_lt_of_le (hKlt w hw k hK) hszW) ?_, h2.kx.size, fun k o hk ho hwk => (h2.kx.block k (Array.getElem?_eq_some_iff.1 ho).1 (hxw k o hk ho ?_)).trans ho⟩, Nat.le_trans hszW h2.kx.size, g', hg2, hA.back h2⟩
      · rintro ⟨e, he, hw1, rfl⟩
        exact hwr pre g hg' e he hw1 hK
      · cases o <;> first | rfl | cases hwk
    | exit id => exact hq.elim
    | goto l => exact hq.elim
    | ret => exact hq.elim
    | panic c => exact hq.elim
    | outgrown => exact hq.elim
  · rintro D ys W hD rfl ⟨hszW, g, hg', hA⟩ hdf
    refine hdone D g hg' _ W ⟨ha.sz, ha.sl, by rw [ha.df]; rfl⟩ ⟨hA.kx, ?_, ?_, ?_⟩
    · intro e he
      rcases List.mem_cons.1 he with rfl | he
      · exact ⟨_, hdf, rfl⟩
      · exact hA.bl e he
    · simp only [List.map_cons, List.nodup_cons]
      refine ⟨fun hm => ?_, hA.nd⟩
      obtain ⟨e, he, q⟩ := List.mem_map.1 hm
      obtain ⟨o', h4, h5⟩ := hA.bl e he
      rw [q, hdf] at h4
      cases h4
      rcases hcell ys g hg' e he with h6 | ⟨e', h6, h7⟩
      · have := h6 _ h5; cases this
      · have := hlt e' h6; omega
    · intro e he hw1
      rcases List.mem_cons.1 he with rfl | he
      · exact .inl (Nat.le_trans hsz hD)
      · exact hA.ow e he hw1
  · intro D c pre W hD _ h _; exact h.elim
end
/-! ### a function with such a loop -/
theorem x_callsM {P : Program} {f : FuncId} {fn : Func} {c : Code} {vs : List Value} {w : World} {R : Ending → World → Prop} {η : Hp} (n : Nat) (hf : P.funcs[f]? = some fn) (hb : fn.body = some c) {N : Nat} (hn : fn.ntmps = N) (hl : Nat.ble vs.length N = true) (hw : WOK w XNone η w)
    (h : XC P none n N [] w XNone (bodyPostM Fence.wide n P fn R) (argS 0 vs) η c) : Calls P f vs.toArray w R := by
  subst hn
  exact (callsIn_wide (n := n)).1 (callsIn_of_wp_marks hf hb trivial (h _ w (SOK.args vs _ (Nat.le_of_ble_eq_true hl)) hw) rfl)
theorem below_takeD {w0 w : World} {D : Nat} {o : Obj} (h : Below w0.heap.size w0 w) (hD : w0.heap.size ≤ D) : Below w0.heap.size w0 (w.putObj D o) :=
  ⟨h.os, h.tape, h.output, by simp; exact h.size, fun k hk => (World.putObj_heap_other (by omega)).trans (h.block k hk)⟩
section
variable {P : Program} {n N : Nat} {w0 : World} {fn : Func} {R : Ending → World → Prop} {σ : Slots} {η : Hp}
/-- out of it, behind the loop: the mark is taken -/
theorem xq_retM1 {t : Tmp} {v : Value} {D : Nat} (hf : fn.results = #[.tmp t]) (hv : slot t σ = some v) (h : ∀ w, WOK w0 XNone η w → R (.returned v) w) : XQ N [mark_ D] w0 XNone (bodyPostM Fence.wide n P fn R) .ret σ ((D, true, hdef) :: η) := by
  intro a w ha hw
  obtain ⟨o, hD, ho⟩ := hw.bl (D, true, hdef) (List.mem_cons_self ..)
  rw [show o = _ from ho] at hD
  show LeavesInM _ _ _ _ _ _ a.defers _ w
  rw [ha.df]
  refine ⟨by simp, .inl ⟨D, _, rfl, run_takeDeferred hD, ?_⟩⟩
  have hw' : WOK w0 XNone η (w.putObj D (.deferred none)) := by
    have h1 : D ∉ η.map (·.1) := by have := hw.nd; simp only [List.map_cons, List.nodup_cons] at this; exact this.1
    have h2 := hw.sub (List.sublist_cons_self _ _)
    have h3 : w0.heap.size ≤ D := by
      rcases hw.ow (D, true, hdef) (List.mem_cons_self ..) rfl with h4 | h4
      · exact h4
      · exact h4.elim
    refine ⟨Kx.of_below (below_takeD h2.kx.below h3), ?_, h2.nd, h2.ow⟩
    intro e he
    obtain ⟨o, h4, h5⟩ := h2.bl e he
    exact ⟨o, (World.putObj_heap_other (fun q => h1 (List.mem_map.2 ⟨e, he, q⟩))).trans h4, h5⟩
  exact ⟨v, by rw [results_tmp hf, getD_of (ha.sl _ _ hv)], h _ hw'⟩
/-- a way out ahead of the loop -/
theorem xq_retM0 {t : Tmp} {v : Value} (hf : fn.results = #[.tmp t]) (hv : slot t σ = some v) (h : ∀ w, WOK w0 XNone η w → R (.returned v) w) : XQ N [] w0 XNone (bodyPostM Fence.wide n P fn R) .ret σ η := by
  intro a w ha hw
  show LeavesInM _ _ _ _ _ _ a.defers _ w
  rw [ha.df]
  exact ⟨v, by rw [results_tmp hf, getD_of (ha.sl _ _ hv)], h _ hw⟩
end
end Go.Proofs.Ytcmepdamemnbkaa
namespace Go.Proofs.Ytcmepdamemnbkaa
open Go.RowKit
section
variable {P : Program} {ro : Option Nat} {n N : Nat} {ds : List Deferred} {w0 : World} {X : Nat → Prop} {Q : Exit → Act → World → Prop} {σ : Slots} {η : Hp} {c : Code}
/-- what the world tells here -/
theorem xc_know {φ : Prop} (h : ∀ w, WOK w0 X η w → φ) (k : φ → XC P ro n N ds w0 X Q σ η c) : XC P ro n N ds w0 X Q σ η c := fun a w ha hw => k (h w hw) a w ha hw
theorem WOK.own {w : World} (h : WOK w0 XNone η w) {b : Nat} {φ : HP} (he : (b, true, φ) ∈ η) : w0.heap.size ≤ b := by
  rcases h.ow _ he rfl with h1 | h1
  · exact h1
  · exact h1.elim
end
theorem Kx.grown {X : Nat → Prop} {w0 w : World} {row : Option Nat} (h : Kx X w0 w) (hr : ∀ k, X k → row = some k) : w0.grownBy w row := ⟨h.os, h.tape, h.output, h.size, fun k hk hne => h.block k hk (fun q => hne (hr k q).symm)⟩
/-- a row of whole numbers that a call has made -/
def RowAt (e : TypeId) (base : Nat) (w : World) (r : RowR) (xs : List Int) : Prop := (r = none → xs = []) ∧ ∀ p, r = some p → base ≤ p.1 ∧ ∃ o, w.heap[p.1]? = some o ∧ orow e 1 xs.length p.2 (xs.map (.int .i64)) o
end Go.Proofs.Ytcmepdamemnbkaa
namespace Go.Proofs.Ytcmepdamemnbkaa
open Go.RowKit
theorem WOK.row {w0 : World} {X : Nat → Prop} {η : Hp} {w w' : World} (h : WOK w0 X η w) (hb : Below w.heap.size w w') {e : TypeId} {r : RowR} {xs : List Int} (hr : RowAt e w.heap.size w' r xs) : WOK w0 X (hpR e 1 r xs.length (xs.map (.int .i64)) ++ η) w' := by
  cases r with
  | none => exact h.below hb
  | some p =>
    obtain ⟨h1, o, h2, h3⟩ := hr.2 p rfl
    exact h.more hb h1 h2 h3
theorem RowAt.of {w0 : World} {η : Hp} {w : World} {e : TypeId} {r : RowR} {xs : List Int} (h : WOK w0 XNone (hpR e 1 r xs.length (xs.map (.int .i64)) ++ η) w) (h0 : r = none → xs = []) : RowAt e w0.heap.size w r xs := by
  refine ⟨h0, fun p hp => ?_⟩
  subst hp
  exact ⟨h.own (List.Mem.head _), h.bl (p.1, true, orow e 1 xs.length p.2 (xs.map (.int .i64))) (List.Mem.head _)⟩
theorem RowAt.below {e : TypeId} {base : Nat} {w w' : World} {r : RowR} {xs : List Int} (h : RowAt e base w r xs) (hb : Below w.heap.size w w') : RowAt e base w' r xs := by
  refine ⟨h.1, fun p hp => ?_⟩
  obtain ⟨h1, o, h2, h3⟩ := h.2 p hp
  exact ⟨h1, o, (hb.block _ (Array.getElem?_eq_some_iff.1 h2).1).trans h2, h3⟩
theorem RowAt.mono {e : TypeId} {base base' : Nat} {w : World} {r : RowR} {xs : List Int} (h : RowAt e base w r xs) (hb : base' ≤ base) : RowAt e base' w r xs := ⟨h.1, fun p hp => ⟨Nat.le_trans hb (h.2 p hp).1, (h.2 p hp).2⟩⟩
end Go.Proofs.Ytcmepdamemnbkaa
namespace Go.Proofs.Ytcmepdamemnbkaa
open Go.RowKit
/-- a call that wrote into one block of the call's own, and made others -/
theorem WOK.updK {w0 : World} {X : Nat → Prop} {η η' : Hp} {w w' : World} {b : Nat} {φ' : HP} (h : WOK w0 X η w) (hU : Upd b φ' η η') (k : Kx (fun q => q = b) w w') {o : Obj} (ho : w'.heap[b]? = some o) (hφ : φ' o) : WOK w0 X η' w' := by
  obtain ⟨φ, hb⟩ := hU.has
  have hown := h.ow _ hb rfl
  refine ⟨⟨k.os.trans h.kx.os, k.tape.trans h.kx.tape, k.output.trans h.kx.output, Nat.le_trans h.kx.size k.size, fun i hi hx => ?_⟩, ?_, by rw [hU.keys]; exact h.nd, ?_⟩
  · refine (k.block i (Nat.lt_of_lt_of_le hi h.kx.size) (fun e => ?_)).trans (h.kx.block i hi hx)
    subst e
    rcases hown with h2 | h2
    · exact absurd hi (Nat.not_lt.2 h2)
    · exact hx h2
  · intro e he
    rcases hU.memNe h.nd e he with rfl | ⟨he, hne⟩
    · exact ⟨o, ho, hφ⟩
    · obtain ⟨o', h2, h3⟩ := h.bl e he
      exact ⟨o', (k.block _ (h.lt he) hne).trans h2, h3⟩
  · intro e he hw
    rcases hU.mem e he with rfl | he
    · exact hown
    · exact h.ow e he hw
end Go.Proofs.Ytcmepdamemnbkaa
namespace Go.Proofs.Ytcmepdamemnbkaa
open Go.RowKit
theorem WOK.more2 {w0 : World} {X : Nat → Prop} {η : Hp} {w w' : World} (h : WOK w0 X η w) (hb : Below w.heap.size w w') {b c : Nat} {o o2 : Obj} {φ φ2 : HP} (hbb : w.heap.size ≤ b) (hcc : w.heap.size ≤ c) (hne : b ≠ c) (ho : w'.heap[b]? = some o) (ho2 : w'.heap[c]? = some o2) (hφ : φ o) (hφ2 : φ2 o2) : WOK w0 X ((c, true, φ2) :: (b, true, φ) :: η) w' := by
  have h1 := h.more hb hbb ho hφ
  refine ⟨h1.kx, ?_, ?_, ?_⟩
  · intro e he
    rcases List.mem_cons.1 he with rfl | he
    · exact ⟨o2, ho2, hφ2⟩
    · exact h1.bl e he
  · simp only [List.map_cons, List.nodup_cons, List.mem_cons, not_or]
    refine ⟨⟨fun e => hne e.symm, fun hm => ?_⟩, ?_⟩
    · obtain ⟨e, he, h2⟩ := List.mem_map.1 hm
      have := h.lt he
      omega
    · have := h1.nd
      simpa only [List.map_cons, List.nodup_cons] using this
  · intro e he hw
    rcases List.mem_cons.1 he with rfl | he
    · exact .inl (Nat.le_trans h.kx.size hcc)
    · exact h1.ow e he hw
end Go.Proofs.Ytcmepdamemnbkaa
