/- SX: iterators that keep blocks of their own between yields, and give blocks away with what -/
import Derived.Test.YtommeljlfkmpjaaDoorPkLawOriginExamples3
import Derived.Laws.Small
import Derived.Laws.StructEq
set_option linter.unusedVariables false
set_option linter.unusedSimpArgs false
namespace Go.Proofs.YtommeljlfkmpjaaDoor
open Go.RowKit
def Keep (K : Nat → Prop) (V V' : World) : Prop := V.heap.size ≤ V'.heap.size ∧ ∀ k, K k → V'.heap[k]? = V.heap[k]?
def Abide {α : Type} (J : (Nat → Prop) → List α → World → Prop) : Prop :=
 ∀ (O O' : Nat → Prop) (s : List α) (A B : World), J O s A → Kx O A B → (∀ k, O' k → O k ∨ (A.heap.size ≤ k ∧ k < B.heap.size)) → J O' s B
def SeqO {α : Type} (n : Nat) (P : Program) (g : Nat) (cs : List Value) (enc : α → List Value) (HA : α → Hp) (T : List α → α → Prop) (S : List α → Prop) (K : Nat → Prop) (w : World) : Prop :=
 ∀ (l : Nat) (J Jx : (Nat → Prop) → List α → World → Prop) (W : World), Below w.heap.size w W → Abide J → Abide Jx → J XNone [] W →
  (∀ O pre x V, J O pre V → T pre x → BOK (HA x) V → (∀ e ∈ HA x, e.2.1 = true ∧ O e.1) → YieldAt Fence.wide (n - 1) P l (enc x).toArray V fun e V' =>
   Keep (fun k => (O k ∧ ∀ e ∈ HA x, e.1 ≠ k) ∨ K k) V V' ∧ ((e = .returned (.bool true) ∧ J (fun k => O k ∧ ∀ e ∈ HA x, e.1 ≠ k) (pre ++ [x]) V') ∨ (e = .returned (.bool false) ∧ Jx (fun k => O k ∧ ∀ e ∈ HA x, e.1 ≠ k) (pre ++ [x]) V'))) →
  CallsIn Fence.wide n P g (#[.func (.yield l) #[] #[]] ++ cs.toArray) W fun e V => (∃ v, e = .returned v) ∧ ((∃ O xs, S xs ∧ J O xs V) ∨ ∃ O pre, Jx O pre V)
def zipS : List Nat → List Value → Slots → Slots
 | p :: ps, v :: vs, σ => zipS ps vs ((p, v) :: σ)
 | _, _, σ => σ
theorem SOK.zip {N : Nat} : ∀ (ps : List Nat) (vs : List Value) (σ : Slots) (t : Array Value), ps.all (Nat.blt · N) = true → SOK N [] σ { tmps := t, defers := [] } → SOK N [] (zipS ps vs σ) { tmps := (ps.zip vs).foldl (fun t (q : Tmp × Value) => t.setIfInBounds q.1 q.2) t, defers := [] }
 | [], _, _, _, _, h => h
 | _ :: _, [], _, _, _, h => h
 | p :: ps, v :: vs, σ, t, hp, h => by
  simp only [List.all_cons, Bool.and_eq_true] at hp
  have h1 := h.put (d := some p) (by simpa [dstOK] using hp.1) v
  exact SOK.zip ps vs ((p, v) :: σ) (t.setIfInBounds p v) hp.2 h1
def RoundPostX (I : World → Prop) (Ix : Code → World → Prop) : Exit → Act → World → Prop
 | .normal, _, w => I w
 | .ret, _, w => Ix .ret w
 | .exit id, _, w => Ix (.exit id) w
 | _, _, _ => False
theorem Kx.mono {X Y : Nat → Prop} {w w' : World} (h : Kx X w w') (hs : ∀ k, X k → Y k) : Kx Y w w' := ⟨h.os, h.tape, h.output, h.size, fun k hk hy => h.block k hk fun q => hy (hs k q)⟩
theorem Kx.putObj {w : World} {b : Nat} {o : Obj} (X : Nat → Prop) (h : X b) : Kx X w (w.putObj b o) := ⟨rfl, rfl, rfl, by simp, fun k hk hx => World.putObj_heap_other fun e => hx (by subst e; exact h)⟩
theorem WOK.apart {w0 : World} {X : Nat → Prop} {η : Hp} {A B : World} {O : Nat → Prop} (h : WOK w0 X η A) (k : Kx O A B) (h0 : ∀ i, O i → w0.heap.size ≤ i) (he : ∀ e ∈ η, ¬ O e.1) : WOK w0 X η B := by
 refine ⟨⟨k.os.trans h.kx.os, k.tape.trans h.kx.tape, k.output.trans h.kx.output, Nat.le_trans h.kx.size k.size, fun i hi hx => ?_⟩, fun e he' => ?_, h.nd, h.ow⟩
 ·exact (k.block i (Nat.lt_of_lt_of_le hi h.kx.size) (fun q => absurd hi (Nat.not_lt.2 (h0 i q)))).trans (h.kx.block i hi hx)
 ·obtain ⟨o, h1, h2⟩ := h.bl e he'
  exact ⟨o, (k.block _ (h.lt he') (he e he')).trans h1, h2⟩
section
variable {P : Program} {n N : Nat} {ds : List Deferred} {w0 : World} {X : Nat → Prop} {Q : Exit → Act → World → Prop} {σ : Slots} {η : Hp}
def Own_ (η : Hp) (e : Nat × Bool × HP) : Prop := (e.2.1 = true ∧ ∀ o, e.2.2 o → o.isCells = true) ∨ ∃ e' ∈ η, e'.1 = e.1
theorem xc_rangeO {go : Operand} {ps : List Tmp} {assign body : Code} {gf : Nat} {cs : List Value} {α β γ : Type} {enc : α → List Value} {HA : α → Hp} {T : List α → α → Prop} {S : List α → Prop}
  (hg : ev σ go = some (.func (.func gf) #[] cs.toArray)) (eg : ∀ args w, (callFunc gf args).run P w = .ok (.enter gf args) w) (hp : ps.all (Nat.blt · N) = true) (hlen : ∀ x, (enc x).length = ps.length)
  (K : Nat → Prop) (hKlt : ∀ w, WOK w0 X η w → ∀ k, K k → k < w.heap.size) (hseq : ∀ w, WOK w0 X η w → SeqO (n - 1) P gf cs enc HA T S K w)
  (C : List α → γ → Prop) (H : List α → γ → Hp) (g0 : γ) (hC0 : C [] g0) (hH0 : List.Sublist (H [] g0) η) (hcell : ∀ ys g, C ys g → ∀ e ∈ H ys g, Own_ η e) (hwr : ∀ ys g, C ys g → ∀ e ∈ H ys g, e.2.1 = true → ¬ K e.1)
  (Cx : Code → List α → γ → Prop) (Hx : Code → List α → γ → Hp) (hcellx : ∀ c ys g, Cx c ys g → ∀ e ∈ Hx c ys g, Own_ η e)
  (S1 : α → β → Slots) (HB : α → β → Hp) (hHB : ∀ x y, ∀ e ∈ HB x y, e.2.1 = true ∧ ∀ o, e.2.2 o → o.isCells = true)
  (hassign : ∀ l x W, XC P (some l) (n - 1 - 1) N [] W XNone (Exit.then (fun a w => ∃ y, SOK N [] (S1 x y) a ∧ WOK W XNone (HB x y) w) (fun _ _ _ => False)) (zipS ps (enc x) σ) [] assign)
  (hbody : ∀ l pre x y g W, C pre g → T pre x → WOK w0 X (HB x y ++ (HA x ++ H pre g)) W → XC P (some l) (n - 1 - 1) N [] W (XW (HB x y ++ (HA x ++ H pre g)))
   (RoundPostX (fun w => ∃ g', C (pre ++ [x]) g' ∧ WOK W (XW (HB x y ++ (HA x ++ H pre g))) (H (pre ++ [x]) g') w) (fun c w => ∃ g', Cx c (pre ++ [x]) g' ∧ WOK W (XW (HB x y ++ (HA x ++ H pre g))) (Hx c (pre ++ [x]) g') w)) (S1 x y) (HB x y ++ (HA x ++ H pre g)) body)
  (hdone : ∀ D xs g, S xs → C xs g → XQ N (mark_ D :: ds) w0 X Q .normal σ ((D, true, hdef) :: H xs g))
  (hstop : ∀ D c pre g, Cx c pre g → XC P none n N (mark_ D :: ds) w0 X Q σ ((D, true, hdef) :: Hx c pre g) c) : XC P none n N ds w0 X Q σ η (.rangeFunc go ps.toArray assign body) := by
 intro a w ha hw
 have hlt : ∀ e ∈ η, e.1 < w.heap.size := fun e he => hw.lt he
 have hsz := hw.kx.size
 refine wpIn_rangeFunc fun fn hfn => ?_
 rw [show (wideR none).round = none from rfl]
 let rec_ : LoopState → Option Code → Loop := fun st pe => { state := st, pending := pe, fn := fn, tmps := a.tmps, params := ps.toArray, assign := assign, body := body, defers := w.heap.size }
 let U : World := (w.alloc (.deferred (some []))).alloc (.loop (rec_ .ready none))
 have hU : Book w.heap.size (rec_ .ready none) U := by
  refine ⟨?_, (Below.heap_alloc _ _ _ (by simp)).trans (World.alloc_heap_new w _)⟩
  have := World.alloc_heap_new (w.alloc (.deferred (some []))) (.loop (rec_ .ready none))
  rwa [World.size_alloc] at this
 have hsU : U.heap.size = w.heap.size + 2 := by simp [U]
 have hbU : Below w.heap.size w U := ((Below.refl _ w).alloc (Nat.le_refl _) _).alloc (by simp) _
 -- the book's blocks are none of ours
 have hnb : ∀ {e : Nat × Bool × HP} {V : World} {o : Loop}, Own_ η e → (∃ q, V.heap[e.1]? = some q ∧ e.2.2 q) → Book w.heap.size o V → e.1 ≠ w.heap.size ∧ e.1 ≠ w.heap.size + 1 := by
  rintro e V o (⟨_, h1⟩ | ⟨e', h1, h2⟩) ⟨q, h3, h4⟩ hB
  ·refine ⟨fun k => ?_, fun k => ?_⟩
   ·rw [k, hB.2] at h3; cases h3; exact absurd (h1 _ h4) (by simp [Obj.isCells])
   ·rw [k, hB.1] at h3; cases h3; exact absurd (h1 _ h4) (by simp [Obj.isCells])
  ·have := hlt e' h1; omega
 have hBk : ∀ {V W : World} {o : Loop} {O : Nat → Prop}, Book w.heap.size o V → Kx O V W → (∀ k, O k → w.heap.size + 2 ≤ k) → Book w.heap.size o W := fun hB k hO =>
  ⟨(k.block _ (Array.getElem?_eq_some_iff.1 hB.1).1 fun q => absurd (hO _ q) (by omega)).trans hB.1, (k.block _ (Array.getElem?_eq_some_iff.1 hB.2).1 fun q => absurd (hO _ q) (by omega)).trans hB.2⟩
 let J : (Nat → Prop) → List α → World → Prop := fun O pre V => (∃ g, C pre g ∧ WOK w0 X (H pre g) V ∧ ∀ e ∈ H pre g, ¬ O e.1) ∧ (∀ k, O k → w.heap.size + 2 ≤ k ∧ k < V.heap.size) ∧ w.heap.size + 2 ≤ V.heap.size ∧ Book w.heap.size (rec_ .ready none) V
 let Jx : (Nat → Prop) → List α → World → Prop := fun O pre V => ∃ c, (∃ g, Cx c pre g ∧ WOK w0 X (Hx c pre g) V ∧ ∀ e ∈ Hx c pre g, ¬ O e.1) ∧ (∀ k, O k → w.heap.size + 2 ≤ k ∧ k < V.heap.size) ∧ w.heap.size + 2 ≤ V.heap.size ∧ Book w.heap.size (rec_ .done (some c)) V
 have hO2 : ∀ {O O' : Nat → Prop} {A B : World}, Kx O A B → (∀ k, O k → w.heap.size + 2 ≤ k ∧ k < A.heap.size) → w.heap.size + 2 ≤ A.heap.size → (∀ k, O' k → O k ∨ (A.heap.size ≤ k ∧ k < B.heap.size)) → ∀ k, O' k → w.heap.size + 2 ≤ k ∧ k < B.heap.size := fun k h1 h2 h3 i hi => by
  rcases h3 i hi with h | h
  ·have := h1 i h; have := k.size; omega
  ·omega
 have hN2 : ∀ {O O' : Nat → Prop} {A B : World} {ζ : Hp}, (∀ e ∈ ζ, ¬ O e.1) → (∀ e ∈ ζ, e.1 < A.heap.size) → (∀ k, O' k → O k ∨ (A.heap.size ≤ k ∧ k < B.heap.size)) → ∀ e ∈ ζ, ¬ O' e.1 := fun h1 h2 h3 e he q => by
  rcases h3 _ q with h | h
  ·exact h1 e he h
  ·have := h2 e he; omega
 have aJ : Abide J := by
  rintro O O' s A B ⟨⟨g, h1, h2, h3⟩, h4, h5, h6⟩ k hO
  exact ⟨⟨g, h1, h2.apart k (fun i hi => by have := h4 i hi; omega) h3, hN2 h3 (fun e he => h2.lt he) hO⟩, hO2 k h4 h5 hO, Nat.le_trans h5 k.size, hBk h6 k fun i hi => (h4 i hi).1⟩
 have aJx : Abide Jx := by
  rintro O O' s A B ⟨c, ⟨g, h1, h2, h3⟩, h4, h5, h6⟩ k hO
  exact ⟨c, ⟨g, h1, h2.apart k (fun i hi => by have := h4 i hi; omega) h3, hN2 h3 (fun e he => h2.lt he) hO⟩, hO2 k h4 h5 hO, Nat.le_trans h5 k.size, hBk h6 k fun i hi => (h4 i hi).1⟩
 refine ⟨w.heap.size + 1, [{ target := .collected w.heap.size, args := #[] }], U, { target := .fn (.func gf) cs.toArray, args := #[.func (.yield (w.heap.size + 1)) #[] #[]] }, U, gf, #[.func (.yield (w.heap.size + 1)) #[] #[]] ++ cs.toArray, U, run_enterLoop_outer _ _ _ _ _, ?_, ?_, ?_, (fun h => by cases h), ?_⟩
 ·simp only [resolve, ha.ev hg]
  simp [go_sem]
 ·intro f' hf'
  trivial
 ·simp [invoke, go_sem, eg]
 refine (hseq w hw (w.heap.size + 1) J Jx U hbU aJ aJx ⟨⟨g0, hC0, (hw.sub hH0).below hbU, fun e he => fun q => q⟩, fun k q => q.elim, by omega, hU⟩ ?_).mono ?_
 ·rintro O pre x V ⟨⟨g, hg1, hg2, hg3⟩, hO, hV, hB⟩ hT hA hAO
  have hs : SOK N [] (zipS ps (enc x) σ) { tmps := ((ps.toArray.zip (enc x).toArray).foldl (fun t (q : Tmp × Value) => t.setIfInBounds q.1 q.2) a.tmps), defers := [] } := by
   have := SOK.zip ps (enc x) σ a.tmps hp ⟨ha.sz, ha.sl, rfl⟩
   simpa using this
  refine ⟨fn, _, assign, body, run_yield (P := P) (args := (enc x).toArray) hB.1 (by simpa [rec_] using hlen x), roundIn_of_wpIn hfn (wpIn_mono (hassign (w.heap.size + 1) x V _ V hs (WOK.start XNone V)) ?_)⟩
  intro e a1 V1 hq
  cases e with
  | exit id => exact hq
  | goto l => exact hq
  | ret => exact hq
  | panic c => exact hq
  | outgrown => exact hq
  | normal =>
  obtain ⟨y, hs1, hw1⟩ := hq
  have hb1 := hw1.kx.below
  have hB1 : Book w.heap.size (rec_ .ready none) V1 := hBk hB hw1.kx (fun k q => q.elim)
  refine ⟨_, run_beginRound hB1.1 rfl, ?_⟩
  let V2 : World := V1.putObj (w.heap.size + 1) (.loop { rec_ .ready none with state := .busy })
  have k12 : Kx (fun k => k = w.heap.size + 1) V1 V2 := Kx.putObj _ rfl
  have hB2 : Book w.heap.size (rec_ .busy none) V2 := hB1.put { rec_ .ready none with state := .busy }
  -- all the blocks of the round
  have hg2' : WOK w0 X (H pre g) V1 := hg2.below hb1
  have hHB1 : ∀ e ∈ HB x y, V.heap.size ≤ e.1 := fun e he => (hw1.ow e he (hHB x y e he).1).resolve_right (fun q => q)
  have hne : ∀ e ∈ HB x y ++ (HA x ++ H pre g), e.1 ≠ w.heap.size + 1 := by
   intro e he q
   rcases List.mem_append.1 he with he | he
   ·have := hHB1 e he; omega
   rcases List.mem_append.1 he with he | he
   ·have := (hO _ (hAO e he).2).1; omega
   ·exact (hnb (hcell pre g hg1 e he) (hg2'.bl e he) hB1).2 q
  have hz1 : WOK w0 X (HB x y ++ (HA x ++ H pre g)) V1 := by
   refine ⟨hg2'.kx, fun e he => ?_, ?_, fun e he hwr => ?_⟩
   ·rcases List.mem_append.1 he with he | he
    ·exact hw1.bl e he
    rcases List.mem_append.1 he with he | he
    ·obtain ⟨o, h1, h2⟩ := hA.bl e he
     exact ⟨o, (hb1.block _ (hO _ (hAO e he).2).2).trans h1, h2⟩
    ·exact hg2'.bl e he
   ·rw [List.map_append, List.map_append, List.nodup_append, List.nodup_append]
    refine ⟨hw1.nd, ⟨hA.nd, hg2.nd, ?_⟩, ?_⟩
    ·intro i hi j hj q
     obtain ⟨e, he, rfl⟩ := List.mem_map.1 hi
     obtain ⟨e', he', rfl⟩ := List.mem_map.1 hj
     exact hg3 e' he' (q ▸ (hAO e he).2)
    ·intro i hi j hj q
     obtain ⟨e, he, rfl⟩ := List.mem_map.1 hi
     have h1 := hHB1 e he
     rcases List.mem_append.1 hj with hj | hj
     ·obtain ⟨e', he', rfl⟩ := List.mem_map.1 hj
      have := (hO _ (hAO e' he').2).2
      omega
     ·obtain ⟨e', he', rfl⟩ := List.mem_map.1 hj
      have := hg2.lt he'
      omega
   ·rcases List.mem_append.1 he with he | he
    ·have h1 := hHB1 e he; have := hg2.kx.size; exact .inl (by omega)
    rcases List.mem_append.1 he with he | he
    ·have := (hO _ (hAO e he).2).1; exact .inl (by omega)
    ·exact hg2.ow e he hwr
  have hz2 : WOK w0 X (HB x y ++ (HA x ++ H pre g)) V2 := hz1.apart k12 (fun i hi => by omega) hne
  refine wpIn_mono (hbody (w.heap.size + 1) pre x y g V2 hg1 hT hz2 a1 V2 hs1 hz2.wok) ?_
  -- what the iterator keeps
  have hXWO : ∀ k, XW (HB x y ++ (HA x ++ H pre g)) k → O k → ∃ e ∈ HA x, e.1 = k := by
   rintro k ⟨e, he, _, rfl⟩ hk
   rcases List.mem_append.1 he with he | he
   ·have := hHB1 e he; have := (hO _ hk).2; omega
   rcases List.mem_append.1 he with he | he
   ·exact ⟨e, he, rfl⟩
   ·exact absurd hk (hg3 e he)
  have hXWK : ∀ k, K k → ¬ XW (HB x y ++ (HA x ++ H pre g)) k := by
   rintro k hk ⟨e, he, hwr', rfl⟩
   have hkl := hKlt w hw _ hk
   rcases List.mem_append.1 he with he | he
   ·have := hHB1 e he; omega
   rcases List.mem_append.1 he with he | he
   ·have := (hO _ (hAO e he).2).1; omega
   ·exact hwr pre g hg1 e he hwr' hk
  have hs12 : V1.heap.size = V2.heap.size := by simp [V2]
  have hs01 := hw1.kx.size
  have kp : ∀ (V3 V4 : World), Kx (XW (HB x y ++ (HA x ++ H pre g))) V2 V3 → Kx (fun k => k = w.heap.size + 1) V3 V4 → Keep (fun k => (O k ∧ ∀ e ∈ HA x, e.1 ≠ k) ∨ K k) V V4 := by
   intro V3 V4 k23 k34
   have h23 := k23.size
   have h34 := k34.size
   refine ⟨by omega, fun k hk => ?_⟩
   have hkV : k < V.heap.size := by
    rcases hk with hk | hk
    ·exact (hO k hk.1).2
    ·have := hKlt w hw k hk; omega
   have hkD : k ≠ w.heap.size + 1 := by
    rcases hk with hk | hk
    ·have := (hO k hk.1).1; omega
    ·have := hKlt w hw k hk; omega
   have hkX : ¬ XW (HB x y ++ (HA x ++ H pre g)) k := by
    rcases hk with hk | hk
    ·intro q; obtain ⟨e, he, h⟩ := hXWO k q hk.1; exact hk.2 e he h
    ·exact hXWK k hk
   exact (k34.block k (by omega) hkD).trans ((k23.block k (by omega) hkX).trans ((k12.block k (by omega) hkD).trans (hb1.block k hkV)))
  have own2 : ∀ (V3 : World) (ζ : Hp), WOK V2 (XW (HB x y ++ (HA x ++ H pre g))) ζ V3 → (∀ e ∈ ζ, Own_ η e) → ∀ e ∈ ζ, ¬ (O e.1 ∧ ∀ q ∈ HA x, q.1 ≠ e.1) := by
   rintro V3 ζ h3 hc e he ⟨hk, hk2⟩
   rcases hc e he with ⟨h1, _⟩ | ⟨e', h1, h2⟩
   ·rcases h3.ow e he h1 with h4 | h4
    ·have := (hO _ hk).2; omega
    ·obtain ⟨q, hq, h5⟩ := hXWO _ h4 hk; exact hk2 q hq h5
   ·have := hlt e' h1; have := (hO _ hk).1; omega
  have bk3 : ∀ (V3 : World), Kx (XW (HB x y ++ (HA x ++ H pre g))) V2 V3 → Book w.heap.size (rec_ .busy none) V3 := by
   intro V3 k
   have h0 : ∀ i, (i = w.heap.size ∨ i = w.heap.size + 1) → ¬ XW (HB x y ++ (HA x ++ H pre g)) i := by
    rintro i hi ⟨e, he, _, rfl⟩
    rcases List.mem_append.1 he with he | he
    ·have := hHB1 e he; omega
    rcases List.mem_append.1 he with he | he
    ·have := (hO _ (hAO e he).2).1; omega
    ·have := hnb (hcell pre g hg1 e he) (hg2'.bl e he) hB1; omega
   exact ⟨(k.block _ (Array.getElem?_eq_some_iff.1 hB2.1).1 (h0 _ (.inr rfl))).trans hB2.1, (k.block _ (Array.getElem?_eq_some_iff.1 hB2.2).1 (h0 _ (.inl rfl))).trans hB2.2⟩
  have fin : ∀ (V3 : World) (ζ : Hp) (o : Loop), WOK V2 (XW (HB x y ++ (HA x ++ H pre g))) ζ V3 → (∀ e ∈ ζ, Own_ η e) → WOK w0 X ζ (V3.putObj (w.heap.size + 1) (.loop o)) := by
   intro V3 ζ o h3 hc
   refine (hz2.back h3).apart (Kx.putObj (fun k => k = w.heap.size + 1) rfl) (fun i hi => by omega) fun e he q => ?_
   exact (hnb (hc e he) (h3.bl e he) (bk3 V3 h3.kx)).2 q
  intro e a3 V3 hq
  cases e with
  | normal =>
   obtain ⟨g', hg', h3⟩ := hq
   have hB3 := bk3 V3 h3.kx
   refine ⟨_, _, run_endRound (P := P) none hB3.1, kp V3 _ h3.kx (Kx.putObj _ rfl), .inl ⟨rfl, ⟨⟨g', hg', fin V3 _ _ h3 (hcell _ g' hg'), own2 V3 _ h3 (hcell _ g' hg')⟩, fun k hk => ?_, ?_, hB3.put (rec_ .ready none)⟩⟩⟩
   ·have := hO k hk.1; have := h3.kx.size; simp; omega
   ·have := h3.kx.size; simp; omega
  | ret =>
   obtain ⟨g', hg', h3⟩ := hq
   have hB3 := bk3 V3 h3.kx
   refine ⟨_, _, run_endRound (P := P) (some .ret) hB3.1, kp V3 _ h3.kx (Kx.putObj _ rfl), .inr ⟨rfl, .ret, ⟨g', hg', fin V3 _ _ h3 (hcellx _ _ g' hg'), own2 V3 _ h3 (hcellx _ _ g' hg')⟩, fun k hk => ?_, ?_, hB3.put (rec_ .done (some .ret))⟩⟩
   ·have := hO k hk.1; have := h3.kx.size; simp; omega
   ·have := h3.kx.size; simp; omega
  | exit id =>
   obtain ⟨g', hg', h3⟩ := hq
   have hB3 := bk3 V3 h3.kx
   refine ⟨_, _, run_endRound (P := P) (some (.exit id)) hB3.1, kp V3 _ h3.kx (Kx.putObj _ rfl), .inr ⟨rfl, .exit id, ⟨g', hg', fin V3 _ _ h3 (hcellx _ _ g' hg'), own2 V3 _ h3 (hcellx _ _ g' hg')⟩, fun k hk => ?_, ?_, hB3.put (rec_ .done (some (.exit id)))⟩⟩
   ·have := hO k hk.1; have := h3.kx.size; simp; omega
   ·have := h3.kx.size; simp; omega
  | goto l => exact hq.elim
  | panic c => exact hq.elim
  | outgrown => exact hq.elim
 ·have last : ∀ (V : World) (ζ : Hp) (o o' : Loop), WOK w0 X ζ V → (∀ e ∈ ζ, Own_ η e) → Book w.heap.size o V → WOK w0 X ((w.heap.size, true, hdef) :: ζ) (V.putObj (w.heap.size + 1) (.loop o')) := by
   intro V ζ o o' h hc hB
   have h1 := h.apart (Kx.putObj (o := .loop o') (fun k => k = w.heap.size + 1) rfl) (fun i hi => by omega) (fun e he q => (hnb (hc e he) (h.bl e he) hB).2 q)
   refine ⟨h1.kx, fun e he => ?_, ?_, fun e he hwr' => ?_⟩
   ·rcases List.mem_cons.1 he with rfl | he
    ·exact ⟨_, (World.putObj_heap_other (by omega)).trans hB.2, rfl⟩
    ·exact h1.bl e he
   ·rw [List.map_cons, List.nodup_cons]
    refine ⟨fun q => ?_, h1.nd⟩
    obtain ⟨e, he, q⟩ := List.mem_map.1 q
    exact (hnb (hc e he) (h.bl e he) hB).1 q
   ·rcases List.mem_cons.1 he with rfl | he
    ·exact .inl hsz
    ·exact h1.ow e he hwr'
  have hsk : ∀ D, SOK N (mark_ D :: ds) σ { a with defers := mark_ D :: a.defers } := fun D => ⟨ha.sz, ha.sl, by rw [ha.df]⟩
  rintro e V ⟨⟨v, rfl⟩, ⟨O, xs, hS, ⟨g, h1, h2, _⟩, _, _, hB⟩ | ⟨O, pre, c, ⟨g, h1, h2, _⟩, _, _, hB⟩⟩
  ·exact ⟨none, _, run_endLoop (P := P) hB.1 (by simp [rec_]), hdone _ xs g hS h1 _ _ (hsk _) (last V _ _ _ h2 (hcell xs g h1) hB)⟩
  ·exact ⟨some c, _, run_endLoop (P := P) hB.1 (by simp [rec_]), hstop _ c pre g h1 _ _ (hsk _) (last V _ _ _ h2 (hcellx c pre g h1) hB)⟩
theorem xc_loopM {ro : Option Nat} {γ : Type} {c : Code} (C : γ → Prop) (S : γ → Slots) (H : γ → Hp) (D : γ → List Deferred) (J : γ → World → Prop) (μ : γ → Nat) (g0 : γ) (hC : C g0) (hD : D g0 = ds) (hs : subS (S g0) σ) (h0 : ∀ w, WOK w0 X η w → BOK (H g0) w ∧ J g0 w)
  (round : ∀ g, C g → ∀ w, BOK (H g) w → J g w → XC P ro n N (D g) w (XW (H g)) (Exit.then (fun a w => ∃ k, k < μ g ∧ ∃ g', C g' ∧ μ g' = k ∧ SOK N (D g') (S g') a ∧ BOK (H g') w ∧ J g' w) Q) (S g) (H g) c) : XC P ro n N ds w0 X Q σ η (.loop c) := by
 intro a w ha hw
 obtain ⟨hb, hj⟩ := h0 w hw
 refine wpIn_loop_ghost (fun k a w => ∃ g', C g' ∧ μ g' = k ∧ SOK N (D g') (S g') a ∧ BOK (H g') w ∧ J g' w) (μ g0) ⟨g0, hC, rfl, by rw [hD]; exact ha.sub hs, hb, hj⟩ ?_
 rintro k a w ⟨g, hg, rfl, h1, h2, h3⟩
 exact round g hg w h2 h3 a w h1 h2.wok
theorem xq_againM {γ : Type} (C : γ → Prop) (S : γ → Slots) (H : γ → Hp) (D : γ → List Deferred) (J : γ → World → Prop) (μ : γ → Nat) (m : Nat) (g' : γ) (hC : C g') (hm : μ g' < m) (hD : D g' = ds) (hs : subS (S g') σ) (h : ∀ w, WOK w0 X η w → BOK (H g') w ∧ J g' w) :
  XQ N ds w0 X (Exit.then (fun a w => ∃ k, k < m ∧ ∃ g', C g' ∧ μ g' = k ∧ SOK N (D g') (S g') a ∧ BOK (H g') w ∧ J g' w) Q) .normal σ η :=
 fun a w ha hw => ⟨_, hm, g', hC, rfl, by rw [hD]; exact ha.sub hs, (h w hw).1, (h w hw).2⟩
theorem leaves_marks {fn : Func} {R : Ending → World → Prop} {tmps : Array Value} : ∀ (Ds : List Nat) (η : Hp) (w : World), WOK w0 X (Ds.map (fun D => (D, true, hdef)) ++ η) w → (∀ w', WOK w0 X η w' → LeavesIn Fence.wide n P fn tmps R [] .returning w') → LeavesInM Fence.wide n P fn tmps R (Ds.map mark_) .returning w
 | [], η, w, h, k => k w h
 | D :: Ds, η, w, h, k => by
  obtain ⟨o, hD, ho⟩ := h.bl (D, true, hdef) List.mem_cons_self
  rw [show o = _ from ho] at hD
  refine ⟨by simp, .inl ⟨D, _, rfl, run_takeDeferred hD, leaves_marks Ds η _ ?_ k⟩⟩
  have hX := h.ow (D, true, hdef) List.mem_cons_self rfl
  have hnd := h.nd
  simp only [List.map_cons, List.cons_append, List.nodup_cons] at hnd
  have h2 := h.sub (List.sublist_cons_self _ _)
  refine ⟨⟨h2.kx.os, h2.kx.tape, h2.kx.output, by simp; exact h2.kx.size, fun i hi hx => (World.putObj_heap_other fun e => ?_).trans (h2.kx.block i hi hx)⟩, fun e he => ?_, h2.nd, h2.ow⟩
  ·subst e
   rcases hX with q | q
   ·exact absurd hi (Nat.not_lt.2 q)
   ·exact hx q
  ·obtain ⟨o', h4, h5⟩ := h2.bl e he
   exact ⟨o', (World.putObj_heap_other fun q => hnd.1 (List.mem_map.2 ⟨e, he, q⟩)).trans h4, h5⟩
theorem xq_ofM {fn : Func} {R : Ending → World → Prop} (Ds : List Nat) (h : XQ N [] w0 X (bodyPost P fn R) .ret σ η) : XQ N (Ds.map mark_) w0 X (bodyPostM Fence.wide n P fn R) .ret σ (Ds.map (fun D => (D, true, hdef)) ++ η) := by
 intro a w ha hw
 show LeavesInM _ _ _ _ _ _ a.defers _ w
 rw [ha.df]
 refine leaves_marks Ds η w hw fun w' hw' => ?_
 exact (h { a with defers := [] } w' ⟨ha.sz, ha.sl, rfl⟩ hw').2
theorem xq_ofMn {fn : Func} {R : Ending → World → Prop} (Ds : List Nat) (h : XQ N [] w0 X (bodyPost P fn R) .normal σ η) : XQ N (Ds.map mark_) w0 X (bodyPostM Fence.wide n P fn R) .normal σ (Ds.map (fun D => (D, true, hdef)) ++ η) := by
 intro a w ha hw
 show LeavesInM _ _ _ _ _ _ a.defers _ w
 rw [ha.df]
 refine leaves_marks Ds η w hw fun w' hw' => ?_
 exact (h { a with defers := [] } w' ⟨ha.sz, ha.sl, rfl⟩ hw').2
end
end Go.Proofs.YtommeljlfkmpjaaDoor
namespace Go.Proofs.YtommeljlfkmpjaaDoor
open Go.RowKit
def IterRel {α : Type} (J : (Nat → Prop) → List α → World → Prop) (K : Nat → Prop) (W : World) (O : Nat → Prop) (pre : List α) (V : World) : Prop := J O pre V ∧ (∀ k, K k → V.heap[k]? = W.heap[k]?) ∧ W.heap.size ≤ V.heap.size
theorem IterRel.start {α : Type} {J : (Nat → Prop) → List α → World → Prop} {K : Nat → Prop} {W : World} (h : J XNone [] W) : IterRel J K W XNone [] W := ⟨h, fun _ _ => rfl, Nat.le_refl _⟩
theorem IterRel.step {α : Type} {J : (Nat → Prop) → List α → World → Prop} {K X : Nat → Prop} {W V w : World} {O : Nat → Prop} {pre : List α} {η : Hp} (h : IterRel J K W O pre V) (aJ : Abide J) (hKlt : ∀ k, K k → k < W.heap.size) (hO : ∀ i, X i → O i ∧ W.heap.size ≤ i) (hw : WOK V X η w) (hwr : ∀ e ∈ η, e.2.1 = true) :
  ∃ O', IterRel J K W O' pre w ∧ (∀ e ∈ η, O' e.1 ∧ W.heap.size ≤ e.1) ∧ ∀ i, O i → O' i := by
 refine ⟨fun i => O i ∨ (V.heap.size ≤ i ∧ i < w.heap.size), ⟨aJ O _ pre V w h.1 (hw.kx.mono fun i hi => (hO i hi).1) (fun i hi => hi), fun k hk => ?_, Nat.le_trans h.2.2 hw.kx.size⟩, fun e he => ?_, fun i hi => .inl hi⟩
 ·have := hKlt k hk
  exact (hw.kx.block k (Nat.lt_of_lt_of_le this h.2.2) (fun q => absurd this (Nat.not_lt.2 (hO k q).2))).trans (h.2.1 k hk)
 ·rcases hw.ow e he (hwr e he) with q | q
  ·exact ⟨.inr ⟨q, hw.lt he⟩, Nat.le_trans h.2.2 q⟩
  ·exact ⟨.inl (hO _ q).1, (hO _ q).2⟩
section
variable {P : Program} {n N : Nat} {ds : List Deferred} {w0 : World} {X : Nat → Prop} {Q : Exit → Act → World → Prop} {ops : List Oper} {σ : Slots} {η : Hp} {rest : List Oper}
variable {d : Option Tmp} {ty : TypeId} {pos : String} {aft : Array Edge} {g : Option (Nat × Bool)}
theorem xo_yieldO {l : Nat} {fo : Operand} {xs : List Operand} {ats : Array TypeId} {α : Type} {enc : α → List Value} {HA : α → Hp} {T : List α → α → Prop} {J Jx : (Nat → Prop) → List α → World → Prop} {K : Nat → Prop} {W : World} {pre : List α} {O : Nat → Prop} (x : α) (η0 : Hp)
  (hg : gS ops σ g = some true) (hf : ev σ fo = some (.func (.yield l) #[] #[])) (ha_ : evs σ xs = some (enc x)) (hN : dstOK N d = true) (aJ : Abide J) (hKlt : ∀ k, K k → k < W.heap.size)
  (hy : ∀ O pre x V, J O pre V → T pre x → BOK (HA x) V → (∀ e ∈ HA x, e.2.1 = true ∧ O e.1) → YieldAt Fence.wide (n - 1) P l (enc x).toArray V fun e V' =>
   Keep (fun k => (O k ∧ ∀ e ∈ HA x, e.1 ≠ k) ∨ K k) V V' ∧ ((e = .returned (.bool true) ∧ J (fun k => O k ∧ ∀ e ∈ HA x, e.1 ≠ k) (pre ++ [x]) V') ∨ (e = .returned (.bool false) ∧ Jx (fun k => O k ∧ ∀ e ∈ HA x, e.1 ≠ k) (pre ++ [x]) V')))
  (hrel : IterRel J K W O pre w0) (hXO : ∀ i, X i → O i ∧ W.heap.size ≤ i) (hT : T pre x) (hs : List.Sublist (HA x ++ η0) η) (hwr : ∀ e ∈ HA x ++ η0, e.2.1 = true)
  (ht : ∀ O' V', IterRel J K W O' (pre ++ [x]) V' → BOK η0 V' → (∀ i, XW η0 i → O' i ∧ W.heap.size ≤ i) → XO P none n N ds V' (XW η0) Q ops (putS d (.bool true) σ) η0 rest)
  (hx : ∀ O' V', Jx O' (pre ++ [x]) V' → BOK η0 V' → (∀ i, XW η0 i → O' i) → XO P none n N ds V' (XW η0) Q ops (putS d (.bool false) σ) η0 rest) :
  XO P none n N ds w0 X Q ops σ η (⟨d, .call { callee := .value fo, args := xs.toArray, argTypes := ats }, ty, pos, aft, g⟩ :: rest) := by
 refine xo_yield (vs := enc x) hg hf ha_ hN fun w hw => ?_
 have hw' := hw.sub hs
 obtain ⟨O', hr', ho', _⟩ := hrel.step aJ hKlt hXO hw' hwr
 have hbk : BOK (HA x) w := hw'.bok (List.sublist_append_left _ _)
 have hb0 : BOK η0 w := hw'.bok (List.sublist_append_right _ _)
 obtain ⟨fn, tmps, assign, body, h1, h2⟩ := hy O' pre x w hr'.1 hT hbk (fun e he => ⟨hwr e (List.mem_append_left _ he), (ho' e (List.mem_append_left _ he)).1⟩)
 refine ⟨fn, tmps, assign, body, h1, h2.mono ?_⟩
 have hnd := hw'.nd
 rw [List.map_append, List.nodup_append] at hnd
 have hO'' : ∀ e ∈ η0, O' e.1 ∧ ∀ q ∈ HA x, q.1 ≠ e.1 := fun e he => ⟨(ho' e (List.mem_append_right _ he)).1, fun q hq h => hnd.2.2 _ (List.mem_map.2 ⟨q, hq, rfl⟩) _ (List.mem_map.2 ⟨e, he, rfl⟩) h⟩
 have hbk' : ∀ V', Keep (fun k => (O' k ∧ ∀ e ∈ HA x, e.1 ≠ k) ∨ K k) w V' → BOK η0 V' := fun V' hk => ⟨fun e he => by
  obtain ⟨o, h3, h4⟩ := hb0.bl e he
  exact ⟨o, (hk.2 _ (.inl (hO'' e he))).trans h3, h4⟩, hb0.nd⟩
 have hXW : ∀ i, XW η0 i → (O' i ∧ ∀ e ∈ HA x, e.1 ≠ i) ∧ W.heap.size ≤ i := by
  rintro i ⟨e, he, _, rfl⟩
  exact ⟨hO'' e he, (ho' e (List.mem_append_right _ he)).2⟩
 rintro e V' ⟨hk, ⟨rfl, hJ⟩ | ⟨rfl, hJ⟩⟩
 ·exact ⟨.bool true, η0, V', XW η0, rfl, (hbk' V' hk).wok, ht _ V' ⟨hJ, fun k hk' => (hk.2 k (.inr hk')).trans (hr'.2.1 k hk'), Nat.le_trans hr'.2.2 hk.1⟩ (hbk' V' hk) hXW⟩
 ·exact ⟨.bool false, η0, V', XW η0, rfl, (hbk' V' hk).wok, hx _ V' hJ (hbk' V' hk) fun i hi => (hXW i hi).1⟩
end
theorem fill_congr {f g : Nat → Option (Nat × Nat)} : ∀ (ps : List (Nat × Value)) (cs : Array Value), (∀ p ∈ ps, f p.1 = g p.1) → Instr.fill f cs ps = Instr.fill g cs ps
 | [], _, _ => rfl
 | p :: ps, cs, h => by
  obtain ⟨i, v⟩ := p
  unfold Instr.fill
  rw [h (i, v) (List.mem_cons_self ..)]
  cases g i with
  | none => rfl
  | some q =>
   obtain ⟨off, size⟩ := q
   simp only
   split
   ·rfl
   ·exact fill_congr ps _ fun q hq => h q (List.mem_cons_of_mem _ hq)
section
variable {P : Program} {ro : Option Nat} {n N : Nat} {ds : List Deferred} {w0 : World} {X : Nat → Prop} {Q : Exit → Act → World → Prop} {σ : Slots} {η : Hp} {ops rest : List Oper} {d : Option Tmp} {ty : TypeId} {pos : String} {aft : Array Edge} {g : Option (Nat × Bool)}
theorem xo_bsG (T : Tys P) (sz : Nat) {t e : TypeId} {len k0 : Nat} {parts : List (Nat × Operand)} {ps : List (Nat × Value)} {z : Value} {cs : List Value} (hg : gS ops σ g = some true) (ht : look t T.el = some e) (hk : look e T.tk = some k0) (hsz : szN k0 = sz) (hz : look e T.zs = some z)
  (hlen : (Nat.ble (len * sz) 16777216 && !Nat.beq (len * sz) 0) = true) (hp : evp σ parts = some ps) (hpl : ps.all (fun p => Nat.blt p.1 len) = true) (hc : fillL ((List.range len).map fun i => (i * sz, sz)) ((List.range (len * sz)).map fun i => z.cells[i % z.cells.size]!) ps = some cs) (hN : dstOK N d = true)
  (h : ∀ b, XO P ro n N ds w0 X Q ops (putS d (.slice (some ⟨b, 0, none⟩) len len) σ) ((b, true, cel cs e) :: η) rest) : XO P ro n N ds w0 X Q ops σ η (⟨d, .buildSlice t len parts.toArray, ty, pos, aft, g⟩ :: rest) :=
 xo_base rfl hg fun a w ha hw => by
  have h1 := T.hel _ (look_mem ht)
  have h2 := (T.htk _ (look_mem hk)).2 w
  have h3 := T.hzs _ (look_mem hz) w
  have h4 := ha.evp hp
  rw [Bool.and_eq_true, Nat.ble_eq, Bool.not_eq_true', ← Bool.not_eq_true, Nat.beq_eq] at hlen
  have h2' : (sizeOf e).run P w = .ok sz w := by rw [← hsz]; exact h2
  have h5 : Instr.fill (fun i => some (i * sz, sz)) ((Array.range (len * sz)).map fun i => z.cells[i % z.cells.size]!) ps = some cs.toArray := by
   have h6 := fillL_eq _ _ _ _ hc
   rw [fill_congr (g := fun i => ((List.range len).map fun i => (i * sz, sz))[i]?) ps _ (fun p hp' => by
    have := List.all_eq_true.1 hpl p hp'
    rw [Nat.blt_eq] at this
    simp [List.getElem?_map, List.getElem?_range this])]
   rw [show ((Array.range (len * sz)).map fun i => z.cells[i % z.cells.size]!) = ((List.range (len * sz)).map fun i => z.cells[i % z.cells.size]!).toArray by apply Array.ext'; rw [Array.toList_map, Array.toList_range]]
   exact h6
  refine ⟨_, w.alloc (.cells cs.toArray e), .slice (some ⟨w.heap.size, 0, none⟩) len len, ?_, .inl rfl, h _ _ _ (ha.put hN _) (hw.alloc _ _ rfl)⟩
  simp only at h1 h3
  have h7 : ¬ len * sz > 2 ^ 24 := by have := hlen.1; omega
  simp only [execOp, List.map_toArray, Instr.buildSlice, Sem.run_bind, run_underlying h1, Result.andThen_ok, h2', if_neg h7, if_neg hlen.2, h3, Sem.run_pure]
  rw [show (parts.map fun (i, x) => (i, a.eval x)) = ps from h4, h5]
  rfl
end
theorem cel_row {cs : List Value} {t : TypeId} {sz n : Nat} (hn : cs.length = n * sz) (hm : n ≤ maxLen) {o : Obj} (h : cel cs t o) : orow t sz n n cs o :=
 ⟨cs.toArray, h, Nat.le_refl _, hm, by simpa using hn, by rw [List.take_of_length_le (by simp; omega)]⟩
def volB (ops : List Oper) (i k : Nat) : Bool := ops.any fun o => (o.dst == some k) && (depOf o).contains i
def volS (ops : List Oper) (i : Nat) (ρ : Slots) : Slots := ρ.filter fun p => volB ops i p.1
section
variable {P : Program} {ro : Option Nat} {n N : Nat} {ds : List Deferred} {w0 : World} {X : Nat → Prop} {Q : Exit → Act → World → Prop} {σ : Slots} {η : Hp}
def DrawV (P : Program) (ro : Option Nat) (n N : Nat) (ds : List Deferred) (w0 : World) (X : Nat → Prop) (ops : List Oper) (vs : List Value) (ρ σ : Slots) (η : Hp) : Nat → List Oper → List Value → Prop
 | i, o :: r, v :: vr => (∀ τ, XO P ro n N ds w0 X (OnePost N ds w0 X η (putS o.dst v (flatS ops vs (depOf o) σ ++ (volS ops i ρ ++ τ)))) ops (flatS ops vs (depOf o) σ ++ (volS ops i ρ ++ τ)) η [o]) ∧ DrawV P ro n N ds w0 X ops vs ρ σ η (i + 1) r vr
 | _, _, _ => True
theorem DrawV.nil {ops : List Oper} {vs : List Value} {ρ : Slots} {i : Nat} : DrawV P ro n N ds w0 X ops vs ρ σ η i [] [] := trivial
theorem DrawV.cons {ops : List Oper} {vs : List Value} {ρ : Slots} {i : Nat} {o : Oper} {r : List Oper} {v : Value} {vr : List Value} (h : ∀ τ, XO P ro n N ds w0 X (OnePost N ds w0 X η (putS o.dst v (flatS ops vs (depOf o) σ ++ (volS ops i ρ ++ τ)))) ops (flatS ops vs (depOf o) σ ++ (volS ops i ρ ++ τ)) η [o])
  (t : DrawV P ro n N ds w0 X ops vs ρ σ η (i + 1) r vr) : DrawV P ro n N ds w0 X ops vs ρ σ η i (o :: r) (v :: vr) := ⟨h, t⟩
end
section
variable {P : Program} {ro : Option Nat} {n N : Nat} {ds : List Deferred} {w0 : World} {X : Nat → Prop} {Q : Exit → Act → World → Prop} {σ : Slots} {η : Hp} {ops rest : List Oper} {d : Option Tmp} {ty : TypeId} {pos : String} {aft : Array Edge} {g : Option (Nat × Bool)} {x y : Operand} {t t' : TypeId}
theorem xc_slots {c : Code} (σ' : Slots) (hs : subS σ' σ) (h : XC P ro n N ds w0 X Q σ' η c) : XC P ro n N ds w0 X Q σ η c := fun a w ha hw => h a w (ha.sub hs) hw
end
end Go.Proofs.YtommeljlfkmpjaaDoor
namespace Go.Proofs.YtommeljlfkmpjaaDoor
open Go.RowKit Go.Proofs.YtommeljlfkmpjaaDoorW.PrintWords
section
variable {P : Program} {ro : Option Nat} {n N : Nat} {ds : List Deferred} {w0 : World} {X : Nat → Prop} {Q : Exit → Act → World → Prop} {σ : Slots} {η : Hp} {ops rest : List Oper} {d : Option Tmp} {ty : TypeId} {pos : String} {aft : Array Edge} {g : Option (Nat × Bool)}
theorem xo_eqlV {t t' : TypeId} {x y : Operand} {u v : Value} {r : Bool} (hg : gS ops σ g = some true) (hx : ev σ x = some u) (hy : ev σ y = some v) (he : ∀ w, (eqGuard .eql t x y u v).run P w = .ok () w ∧ (binOp .eql t u v).run P w = .ok (.bool r) w) (hN : dstOK N d = true)
  (h : XO P ro n N ds w0 X Q ops (putS d (.bool r) σ) η rest) : XO P ro n N ds w0 X Q ops σ η (⟨d, .binOp .eql t x y t', ty, pos, aft, g⟩ :: rest) :=
 xo_val _ rfl hg hN (fun _ w ha hw => by
  obtain ⟨h1, h2⟩ := he w
  simp [execOp, ha.ev hx, ha.ev hy, h1, h2]) h
theorem xo_ixV {t : TypeId} {x ix : Operand} {u i v : Value} (hg : gS ops σ g = some true) (hx : ev σ x = some u) (hi : ev σ ix = some i) (he : ∀ w, (Instr.index t u i).run P w = .ok v w) (hN : dstOK N d = true)
  (h : XO P ro n N ds w0 X Q ops (putS d v σ) η rest) : XO P ro n N ds w0 X Q ops σ η (⟨d, .index t x ix, ty, pos, aft, g⟩ :: rest) :=
 xo_val _ rfl hg hN (fun _ w ha hw => by simp [execOp, ha.ev hx, ha.ev hi, he]) h
theorem xo_fldV {t : TypeId} {x : Operand} {f : Nat} {u v : Value} (hg : gS ops σ g = some true) (hx : ev σ x = some u) (he : ∀ w, (Instr.field t u f).run P w = .ok v w) (hN : dstOK N d = true)
  (h : XO P ro n N ds w0 X Q ops (putS d v σ) η rest) : XO P ro n N ds w0 X Q ops σ η (⟨d, .field t x f, ty, pos, aft, g⟩ :: rest) :=
 xo_val _ rfl hg hN (fun _ w ha hw => by simp [execOp, ha.ev hx, he]) h
theorem xo_buildV {t : TypeId} {parts : List (Nat × Operand)} {ps : List (Nat × Value)} {v : Value} (hg : gS ops σ g = some true) (hp : evp σ parts = some ps) (he : ∀ w, (Instr.build t ps.toArray).run P w = .ok v w) (hN : dstOK N d = true)
  (h : XO P ro n N ds w0 X Q ops (putS d v σ) η rest) : XO P ro n N ds w0 X Q ops σ η (⟨d, .build t parts.toArray, ty, pos, aft, g⟩ :: rest) :=
 xo_val _ rfl hg hN (fun a w ha hw => by
  have h1 := ha.evp hp
  have := he w
  simp only [execOp, List.map_toArray]
  rw [show (parts.map fun (i, x) => (i, a.eval x)) = ps from h1]
  simp [this]) h
theorem xo_iaL (T : Tys P) {t e : TypeId} {m k0 : Nat} {x ix : Operand} {b o : Nat} {k : IntKind} {i : Int} (hg : gS ops σ g = some true) (hu : P.underlying t = some (.array m e)) (hk : look e T.tk = some k0) (hx : ev σ x = some (.pointer (some ⟨b, o, none⟩))) (hi : ev σ ix = some (.int k i))
  (hb : 0 ≤ i ∧ i < (m : Int)) (hN : dstOK N d = true) (h : XO P ro n N ds w0 X Q ops (putS d (.pointer (some ⟨b, o + i.toNat * szN k0, none⟩)) σ) η rest) : XO P ro n N ds w0 X Q ops σ η (⟨d, .indexAddr t x ix, ty, pos, aft, g⟩ :: rest) :=
 xo_iaA T hg hu hk hx hi hb hN (by rw [Addr.add_lit]; exact h)
theorem xo_storeL (T : Tys P) {t : TypeId} {p x : Operand} {b o : Nat} {cs : List Value} {te : TypeId} {v : Value} {η' : Hp} (hg : gS ops σ g = some true) (ht : look t T.tk = some 0) (hp : ev σ p = some (.pointer (some ⟨b, o, none⟩))) (hx : ev σ x = some v)
  (hm : (b, true, cel cs te) ∈ η) (hv : v.cells = #[v]) (h1 : v.oneCell' = true) (hlt : o < cs.length) (hU : Upd b (cel (cs.set o v) te) η η') (hN : dstOK N d = true)
  (h : XO P ro n N ds w0 X Q ops (putS d undef σ) η' rest) : XO P ro n N ds w0 X Q ops σ η (⟨d, .store t p x, ty, pos, aft, g⟩ :: rest) :=
 xo_storeI T (o := o) (k := 0) hg ht (by rw [Addr.add_lit]; exact hp) hx hm hv h1 hlt hU hN h
end
theorem WOK.ro {w0 : World} {X : Nat → Prop} {η : Hp} {w : World} (h : WOK w0 X η w) {b : Nat} {wr : Bool} {cs : List Value} {t : TypeId} (he : (b, wr, cel cs t) ∈ η) : RO w XNone ⟨b, 0, none⟩ cs := ro_of fun j v hj => by rw [Addr.add_lit, Nat.zero_add]; exact h.cell he j hj
def rowV (r : Nat → Int) : List Value := [.int .i64 (r 0), .int .i64 (r 1), .int .i64 (r 2), .int .i64 (r 3), .int .i64 (r 4), .int .i64 (r 5)]
theorem rowV_at (r : Nat → Int) {i : Int} (h : 0 ≤ i ∧ i ≤ 5) : nth (0 + i.toNat * szN 0) (rowV r) = some (.int .i64 (r i.toNat)) := by
 rcases (show i = 0 ∨ i = 1 ∨ i = 2 ∨ i = 3 ∨ i = 4 ∨ i = 5 by omega) with rfl | rfl | rfl | rfl | rfl | rfl <;> rfl
theorem spa_eq (x y : Operand) (a b c d : Int) (w : World) : (eqGuard .eql 55 x y (.agg #[.int .i64 a, .int .i64 b]) (.agg #[.int .i64 c, .int .i64 d])).run Tryd.prog w = .ok () w ∧ (binOp .eql 55 (.agg #[.int .i64 a, .int .i64 b]) (.agg #[.int .i64 c, .int .i64 d])).run Tryd.prog w = .ok (.bool (decide (a = c) && decide (b = d))) w := by
 refine ⟨by go_simp, ?_⟩
 by_cases h1 : a = c <;> by_cases h2 : b = d <;> simp [h1, h2] <;> go_simp <;> simp [h1, h2]
def afterF (n d : Int) : SpaT := if d = 1073741824 then ⟨-1073741824, 1073741824⟩ else ⟨n + 1 - d, 1073741824⟩
def nowhereF : SpaT := ⟨1073741824, -1073741824⟩
def untilF (n d : Int) : SpaT := if d = 1073741824 then nowhereF else ⟨-1073741824, n - d⟩
def comF (x y : SpaT) : SpaT := ⟨if x.f0 < y.f0 then y.f0 else x.f0, if y.f1 < x.f1 then y.f1 else x.f1⟩
def GlobO (w : World) : Prop := RO w XNone ⟨0, 0, none⟩ (spaV nowhereF)
theorem GlobO.below {w w' : World} (h : GlobO w) (hb : Below w.heap.size w w') : GlobO w' := fun j v hj => ⟨(Kx.of_below (X := XNone) hb).cell (h j v hj).1 (fun x => x), fun x => x⟩
def Sure (d : Int) : Prop := 0 ≤ d ∧ d ≤ 1073741824
set_option maxHeartbeats 4000000 in
theorem after_calls (n d : Int) (w : World) (hn : -2000 ≤ n ∧ n ≤ 2000) (hd : Sure d) :
  Calls Tryd.prog 65 #[.int .i64 n, .int .i64 d] w fun e w' => e = .returned (.agg (spaV (afterF n d)).toArray) ∧ Below w.heap.size w w' := by
 obtain ⟨hd1, hd2⟩ := hd
 refine x_calls (X := XNone) Tryd.func65 rfl rfl rfl ?_
 with_reducible ((repeat apply xc_seq); apply xcR)
 refine xo_alloc T_ rfl rfl rfl rfl (fun b4 => ?_)
 with_reducible (apply xo_nil; (repeat first | apply xqT | apply xqB | apply xqS); (repeat apply xc_seq); apply xcR)
 refine xoM ?_
 refine xo_eql rfl rfl rfl rfl ?_
 with_reducible (apply xo_nil; (repeat first | apply xqT | apply xqB | apply xqS); (repeat apply xc_seq))
 refine xc_cond rfl (fun h => ?_) (fun h => ?_)
 ·have e := of_decide_eq_true h
  with_reducible ((repeat apply xc_seq); apply xcR)
  refine xo_build TB_ rfl rfl rfl rfl rfl ?_
  refine xo_store T_ rfl rfl rfl rfl (by repeat first | exact mH | apply mT | apply mA) rfl rfl rfl rfl (by repeat first | exact Upd.head | apply Upd.tail | apply Upd.app) rfl ?_
  with_reducible (apply xo_nil; (repeat first | apply xqT | apply xqB | apply xqS); (repeat apply xc_seq); apply xc_ret; (repeat (first | apply xq_thenR | apply xq_blockR | apply xq_scopeR)))
  exact xq_retC T_ rfl rfl rfl (by repeat first | exact mH | apply mT | apply mA) rfl fun w' hw => ⟨by rw [afterF, if_pos e]; rfl, hw.kx.below⟩
 ·have e := of_decide_eq_false h
  with_reducible (apply xc_skip; (repeat first | apply xqT | apply xqB | apply xqS); (repeat apply xc_seq); apply xcR)
  refine xoM ?_
  refine xo_add rfl rfl rfl (by omega) rfl ?_
  refine xoM ?_
  refine xo_sub rfl rfl rfl (by omega) rfl ?_
  refine xo_build TB_ rfl rfl rfl rfl rfl ?_
  refine xo_store T_ rfl rfl rfl rfl (by repeat first | exact mH | apply mT | apply mA) rfl rfl rfl rfl (by repeat first | exact Upd.head | apply Upd.tail | apply Upd.app) rfl ?_
  with_reducible (apply xo_nil; (repeat first | apply xqT | apply xqB | apply xqS); (repeat apply xc_seq); apply xc_ret; (repeat (first | apply xq_thenR | apply xq_blockR | apply xq_scopeR)))
  exact xq_retC T_ rfl rfl rfl (by repeat first | exact mH | apply mT | apply mA) rfl fun w' hw => ⟨by rw [afterF, if_neg e]; rfl, hw.kx.below⟩
theorem until_calls (n d : Int) (w : World) (hn : -2000 ≤ n ∧ n ≤ 2000) (hd : Sure d) (hglob : GlobO w) :
  Calls Tryd.prog 66 #[.int .i64 n, .int .i64 d] w fun e w' => e = .returned (.agg (spaV (untilF n d)).toArray) ∧ Below w.heap.size w w' := by
 obtain ⟨hd1, hd2⟩ := hd
 refine x_calls (X := XNone) Tryd.func66 rfl rfl rfl ?_
 with_reducible ((repeat apply xc_seq); apply xcR)
 refine xo_alloc T_ rfl rfl rfl rfl (fun b4 => ?_)
 with_reducible (apply xo_nil; (repeat first | apply xqT | apply xqB | apply xqS); (repeat apply xc_seq); apply xcR)
 refine xoM ?_
 refine xo_eql rfl rfl rfl rfl ?_
 with_reducible (apply xo_nil; (repeat first | apply xqT | apply xqB | apply xqS); (repeat apply xc_seq))
 refine xc_cond rfl (fun h => ?_) (fun h => ?_)
 ·have e := of_decide_eq_true h
  with_reducible ((repeat apply xc_seq); apply xcR)
  refine xo_loadRN T_ rfl rfl rfl hglob rfl rfl ?_
  refine xo_store T_ rfl rfl rfl rfl (by repeat first | exact mH | apply mT | apply mA) rfl rfl rfl rfl (by repeat first | exact Upd.head | apply Upd.tail | apply Upd.app) rfl ?_
  with_reducible (apply xo_nil; (repeat first | apply xqT | apply xqB | apply xqS); (repeat apply xc_seq); apply xc_ret; (repeat (first | apply xq_thenR | apply xq_blockR | apply xq_scopeR)))
  exact xq_retC T_ rfl rfl rfl (by repeat first | exact mH | apply mT | apply mA) rfl fun w' hw => ⟨by rw [untilF, if_pos e]; rfl, hw.kx.below⟩
 ·have e := of_decide_eq_false h
  with_reducible (apply xc_skip; (repeat first | apply xqT | apply xqB | apply xqS); (repeat apply xc_seq); apply xcR)
  refine xoM ?_
  refine xoM ?_
  refine xo_sub rfl rfl rfl (by omega) rfl ?_
  refine xo_build TB_ rfl rfl rfl rfl rfl ?_
  refine xo_store T_ rfl rfl rfl rfl (by repeat first | exact mH | apply mT | apply mA) rfl rfl rfl rfl (by repeat first | exact Upd.head | apply Upd.tail | apply Upd.app) rfl ?_
  with_reducible (apply xo_nil; (repeat first | apply xqT | apply xqB | apply xqS); (repeat apply xc_seq); apply xc_ret; (repeat (first | apply xq_thenR | apply xq_blockR | apply xq_scopeR)))
  exact xq_retC T_ rfl rfl rfl (by repeat first | exact mH | apply mT | apply mA) rfl fun w' hw => ⟨by rw [untilF, if_neg e]; rfl, hw.kx.below⟩
theorem common1_calls (x y : SpaT) (B : Nat) (w : World) (hB : RO w XNone ⟨B, 0, none⟩ (spaV y)) :
  Calls Tryd.prog 52 #[.agg (spaV x).toArray, .slice (some ⟨B, 0, none⟩) 1 1] w fun e w' => e = .returned (.agg (spaV (comF x y)).toArray) ∧ Below w.heap.size w w' := by
 refine x_calls (X := XNone) Tryd.func52 rfl rfl rfl ?_
 with_reducible ((repeat apply xc_seq); apply xcR)
 refine xo_box rfl rfl rfl rfl (fun b2 => ?_)
 refine xo_alloc T_ rfl rfl rfl rfl (fun b4 => ?_)
 with_reducible (apply xo_nil; (repeat first | apply xqT | apply xqB | apply xqS); (repeat apply xc_seq); apply xcR)
 refine xoM ?_
 refine xo_len T_ rfl rfl rfl rfl ?_
 refine xoM ?_
 with_reducible (apply xo_nil; (repeat first | apply xqT | apply xqB | apply xqS); (repeat apply xc_seq); apply xc_block)
 refine xc_loop (γ := Bool) (fun _ => True) (fun g => match g with
   | false => [(2, .pointer (some ⟨b2, 0, none⟩)), (4, .pointer (some ⟨b4, 0, none⟩)), (7, .slice (some ⟨B, 0, none⟩) 1 1), (8, .int .i64 1), (9, .int .i64 0)]
   | true => [(2, .pointer (some ⟨b2, 0, none⟩)), (4, .pointer (some ⟨b4, 0, none⟩)), (7, .slice (some ⟨B, 0, none⟩) 1 1), (8, .int .i64 1), (9, .int .i64 1)])
  (fun g => match g with
   | false => [(b4, true, cel [.int .i64 0, .int .i64 0] 55), (b2, true, cel (spaV x) 55)]
   | true => [(b4, true, cel [.int .i64 0, .int .i64 0] 55), (b2, true, cel (spaV (comF x y)) 55)])
  (fun g => match g with | false => 1 | true => 0) false trivial ⟨rfl, rfl, rfl, rfl, rfl, trivial⟩ (by repeat (first | exact List.Sublist.refl _ | apply List.Sublist.cons_cons | apply List.Sublist.cons | exact List.nil_sublist _)) ?_
 rintro (_ | _) -
 ·with_reducible repeat apply xc_seq
  with_reducible apply xcR
  refine xo_lss rfl rfl rfl rfl ?_
  with_reducible (apply xo_nil; (repeat first | apply xqT | apply xqB | apply xqS); (repeat apply xc_seq))
  refine xc_condT rfl ?_
  with_reducible (apply xc_skip; (repeat first | apply xqT | apply xqB | apply xqS); (repeat apply xc_seq); apply xc_block; (repeat apply xc_seq); apply xcR)
  refine xo_ia T_ rfl rfl rfl rfl rfl ⟨by omega, by omega⟩ rfl ?_
  refine xo_loadRN T_ rfl rfl rfl (by have h1 := hB; simpa [Addr.add_zero'] using h1) rfl rfl ?_
  refine xo_alloc T_ rfl rfl rfl rfl (fun b6 => ?_)
  refine xo_store T_ rfl rfl rfl rfl (by repeat first | exact mH | apply mT | apply mA) rfl rfl rfl rfl (by repeat first | exact Upd.head | apply Upd.tail | apply Upd.app) rfl ?_
  with_reducible (apply xo_nil; (repeat first | apply xqT | apply xqB | apply xqS); (repeat apply xc_seq); apply xcR)
  refine xo_fa T_ rfl rfl rfl rfl rfl ?_
  refine xo_load0 T_ rfl rfl rfl (by repeat first | exact mH | apply mT | apply mA) rfl rfl ?_
  refine xo_fa T_ rfl rfl rfl rfl rfl ?_
  refine xo_load0 T_ rfl rfl rfl (by repeat first | exact mH | apply mT | apply mA) rfl rfl ?_
  refine xo_max rfl rfl rfl rfl ?_
  refine xo_fa T_ rfl rfl rfl rfl rfl ?_
  refine xo_load0 T_ rfl rfl rfl (by repeat first | exact mH | apply mT | apply mA) rfl rfl ?_
  refine xo_fa T_ rfl rfl rfl rfl rfl ?_
  refine xo_load0 T_ rfl rfl rfl (by repeat first | exact mH | apply mT | apply mA) rfl rfl ?_
  refine xo_min rfl rfl rfl rfl ?_
  refine xo_build TB_ rfl rfl rfl rfl rfl ?_
  refine xo_store T_ rfl rfl rfl rfl (by repeat first | exact mH | apply mT | apply mA) rfl rfl rfl rfl (by repeat first | exact Upd.head | apply Upd.tail | apply Upd.app) rfl ?_
  with_reducible (apply xo_nil; (repeat first | apply xqT | apply xqB | apply xqS); (repeat apply xc_seq); apply xcR)
  refine xo_add rfl rfl rfl (by omega) rfl ?_
  refine xoM ?_
  with_reducible (apply xo_nil; (repeat first | apply xqT | apply xqB | apply xqS))
  exact xq_again _ _ _ _ _ true trivial (by decide) ⟨rfl, rfl, rfl, rfl, rfl, trivial⟩ (by repeat (first | exact List.Sublist.refl _ | apply List.Sublist.cons_cons | apply List.Sublist.cons | exact List.nil_sublist _))
 ·with_reducible repeat apply xc_seq
  with_reducible apply xcR
  refine xo_lss rfl rfl rfl rfl ?_
  with_reducible (apply xo_nil; (repeat first | apply xqT | apply xqB | apply xqS); (repeat apply xc_seq))
  refine xc_condF rfl ?_
  with_reducible (apply xc_exit; (repeat (first | apply xq_blockX | apply xq_thenE | refine xq_blockE rfl ?_ | apply xq_scopeE)); (repeat first | apply xqT | apply xqB | apply xqS); (repeat apply xc_seq); apply xcR)
  refine xo_loadN T_ rfl rfl rfl (by repeat first | exact mH | apply mT | apply mA) rfl rfl ?_
  refine xo_store T_ rfl rfl rfl rfl (by repeat first | exact mH | apply mT | apply mA) rfl rfl rfl rfl (by repeat first | exact Upd.head | apply Upd.tail | apply Upd.app) rfl ?_
  with_reducible (apply xo_nil; (repeat first | apply xqT | apply xqB | apply xqS); (repeat apply xc_seq); apply xc_ret; (repeat (first | apply xq_thenR | apply xq_blockR | apply xq_scopeR)))
  exact xq_retC T_ rfl rfl rfl (by repeat first | exact mH | apply mT | apply mA) rfl fun w' hw => ⟨rfl, hw.kx.below⟩
theorem after_enters : ∀ args w, (callFunc 65 args).run Tryd.prog w = .ok (.enter 65 args) w := enters_of Tryd.func65 (by kernel_rfl) rfl
theorem until_enters : ∀ args w, (callFunc 66 args).run Tryd.prog w = .ok (.enter 66 args) w := enters_of Tryd.func66 (by kernel_rfl) rfl
theorem common_enters : ∀ args w, (callFunc 52 args).run Tryd.prog w = .ok (.enter 52 args) w := enters_of Tryd.func52 (by kernel_rfl) rfl
theorem add_blk (a : Addr) (i : Nat) : (a.add i).block = a.block := by unfold Addr.add; split <;> rfl
theorem RO.blk {w w' : World} {p : Addr} {cs : List Value} (h : RO w XNone p cs) (e : w'.heap[p.block]? = w.heap[p.block]?) : RO w' XNone p cs := fun j v hj => by
 refine ⟨?_, fun q => q⟩
 have h1 := (h j v hj).1
 have h2 : (p.add j).block = p.block := add_blk p j
 unfold World.cell? at h1 ⊢
 rw [h2, e]
 rw [h2] at h1
 exact h1
theorem RO.wr {w : World} {X : Nat → Prop} {p : Addr} {cs : List Value} (h : RO w XNone p cs) (hX : ¬ X p.block) : RO w X p cs := fun j v hj => ⟨(h j v hj).1, by rw [add_blk]; exact hX⟩
def RowOf {α : Type} (V : α → List Value) (sz : Nat) (z : α) (w : World) (A : Option Addr) (xs : List α) : Prop := ∀ k, k < xs.length → ∃ ad, A = some ad ∧ RO w XNone (ad.add ((k : Int).toNat * szN sz)) (V (xs.getD k z))
def holdsA (K : Nat → Prop) (A : Option Addr) : Prop := ∀ ad, A = some ad → K ad.block
theorem RowOf.keep {α : Type} {V : α → List Value} {sz : Nat} {z : α} {w w' : World} {A : Option Addr} {xs : List α} (h : RowOf V sz z w A xs) (K : Nat → Prop) (hK : 0 < xs.length → holdsA K A) (e : ∀ k, K k → w'.heap[k]? = w.heap[k]?) : RowOf V sz z w' A xs := fun k hk => by
 obtain ⟨ad, e1, h1⟩ := h k hk
 exact ⟨ad, e1, h1.blk (by rw [add_blk]; exact e _ (hK (by omega) ad e1))⟩
theorem RowOf.below {α : Type} {V : α → List Value} {sz : Nat} {z : α} {w w' : World} {A : Option Addr} {xs : List α} (h : RowOf V sz z w A xs) (hb : Below w.heap.size w w') : RowOf V sz z w' A xs := fun k hk => by
 obtain ⟨ad, e1, h1⟩ := h k hk
 exact ⟨ad, e1, fun j v hj => ⟨(Kx.of_below (X := XNone) hb).cell (h1 j v hj).1 (fun q => q), fun q => q⟩⟩
theorem gat_row {w : World} {A : Option Addr} {gs : List GatT} (h : Kd.C gatK w A gs.length gs) : RowOf gatV 4 zGat w A gs := fun k hk => gat_at h k hk
theorem mar_row {w : World} {A : Option Addr} {ms : List MarT} (h : Kd.C marK w A ms.length ms) : RowOf marV 7 zMar w A ms := fun k hk => mar_at h k hk
theorem x_iterM {P : Program} {g : Nat} {fn : Func} {c : Code} {cs : List Value} {m : Nat} {W : World} {R : Ending → World → Prop} {X : Nat → Prop} {η : Hp} {l : Nat} (hf : P.funcs[g]? = some fn) (hb : fn.body = some c) {N : Nat} (hn : fn.ntmps = N) (hl : Nat.ble (cs.length + 1) N = true) (hw : WOK W X η W)
  (h : XC P none m N [] W X (bodyPostM Fence.wide m P fn R) (argS 0 (.func (.yield l) #[] #[] :: cs)) η c) : CallsIn Fence.wide m P g (#[.func (.yield l) #[] #[]] ++ cs.toArray) W R := by
 subst hn
 have := callsIn_of_wp_marks (F := Fence.wide) (n := m) (args := (.func (.yield l) #[] #[] :: cs).toArray) hf hb trivial (h _ W (SOK.args _ _ (by simpa using Nat.le_of_ble_eq_true hl)) hw) rfl
 simpa using this
theorem nilS_eq (x y : Operand) (p : Addr) (n c : Nat) (w : World) : (eqGuard .eql 34 x y (.slice (some p) n c) (.slice none 0 0)).run Tryd.prog w = .ok () w ∧ (binOp .eql 34 (.slice (some p) n c) (.slice none 0 0)).run Tryd.prog w = .ok (.bool false) w := by
 have h := run_equal_slice_nil (P := Tryd.prog) w 34 3 (some p) n c Tryd.underlying34
 refine ⟨by go_simp, ?_⟩
 simp [binOp, h]
theorem cloneI_enters : ∀ args w, (callFunc 85 args).run Tryd.prog w = .ok (.enter 85 args) w := enters_of Tryd.func85 (by kernel_rfl) rfl
theorem cloneI_calls (B : Nat) (l : List Int) (n : Nat) (w : World) (hn : n = l.length) (hl : n ≤ 1000) (hB : RO w XNone ⟨B, 0, none⟩ (l.map (.int .i64))) :
  Calls Tryd.prog 85 #[.slice (some ⟨B, 0, none⟩) n n] w fun e w' => ∃ b cap, e = .returned (.slice (some ⟨b, 0, none⟩) n cap) ∧ w.heap.size ≤ b ∧ (∃ o, w'.heap[b]? = some o ∧ orow 3 1 n cap (l.map (.int .i64)) o) ∧ Below w.heap.size w w' := by
 refine x_calls (X := XNone) Tryd.func85 rfl rfl rfl ?_
 with_reducible ((repeat apply xc_seq); apply xcR)
 refine xoA ?_
 with_reducible (apply xo_nil; (repeat first | apply xqT | apply xqB | apply xqS); (repeat apply xc_seq); apply xcR)
 refine xoM ?_
 refine xo_eqlV rfl rfl rfl (nilS_eq _ _ _ _ _) rfl ?_
 with_reducible (apply xo_nil; (repeat first | apply xqT | apply xqB | apply xqS); (repeat apply xc_seq))
 refine xc_condF rfl ?_
 with_reducible (apply xc_skip; (repeat first | apply xqT | apply xqB | apply xqS); (repeat apply xc_seq); apply xcR)
 refine xo_bs0 T_ 1 rfl rfl rfl rfl (fun b5 => ?_)
 refine xoM ?_
 refine xo_appE TR_ (news := l.map (.int .i64)) rfl rfl rfl rfl rfl rfl rfl rfl (by simp [hn]) (fun q => by cases q) (fun p hp w1 hw1 j u hj => by cases hp; exact hw1.kx.cell (hB j u hj).1 (fun q => q)) (by simp [Value.oneCell']) (by omega) rfl rfl (fun b7 cap => ?_)
 refine xoA ?_
 with_reducible (apply xo_nil; (repeat first | apply xqT | apply xqB | apply xqS); (repeat apply xc_seq); apply xc_ret; (repeat (first | apply xq_thenR | apply xq_blockR | apply xq_scopeR)))
 exact xq_ret1 rfl rfl fun w' hw => ⟨b7, cap, rfl, hw.own (List.Mem.head _), hw.bl _ (List.Mem.head _), hw.kx.below⟩
def encB (x : Nat × GatT) : List Value := [.int .i64 (x.1 : Int), .agg (gatV x.2).toArray]
def nextB (gs : List GatT) (pre : List (Nat × GatT)) (x : Nat × GatT) : Prop := pre.length < gs.length ∧ x = (gs.length - 1 - pre.length, gs.getD (gs.length - 1 - pre.length) zGat)
theorem backward_enters : ∀ args w, (callFunc 101 args).run Tryd.prog w = .ok (.enter 101 args) w := enters_of Tryd.func101 (by kernel_rfl) rfl
set_option maxHeartbeats 8000000 in
theorem backward_seq (n : Nat) (gs : List GatT) (A : Option Addr) (c : Nat) (b1 : Nat) (K : Nat → Prop) (w : World) (hg6 : gs.length ≤ 6) (hA : RowOf gatV 4 zGat w A gs) (h1 : RO w XNone ⟨b1, 0, none⟩ [.slice A gs.length c]) (hKlt : ∀ k, K k → k < w.heap.size) (hK1 : K b1) (hKA : 0 < gs.length → holdsA K A) :
  SeqO n Tryd.prog 101 [.pointer (some ⟨b1, 0, none⟩)] encB (fun _ => []) (nextB gs) (fun xs => xs.length = gs.length) K w := by
 intro l J Jx W hbW aJ aJx hJ0 hy
 have hAW := hA.below hbW
 have h1W : RO W XNone ⟨b1, 0, none⟩ [.slice A gs.length c] := fun j v hj => ⟨(Kx.of_below (X := XNone) hbW).cell (h1 j v hj).1 (fun q => q), fun q => q⟩
 have hKW : ∀ k, K k → k < W.heap.size := fun k hk => Nat.lt_of_lt_of_le (hKlt k hk) hbW.size
 clear hA h1 hbW
 refine x_iter Tryd.func101 rfl rfl rfl (WOK.start XNone W) ?_
 with_reducible ((repeat apply xc_seq); apply xcR)
 refine xo_loadR0 T_ rfl rfl rfl h1W rfl ?_
 refine xo_len T_ rfl rfl rfl rfl ?_
 refine xo_sub rfl rfl rfl (by omega) rfl ?_
 refine xoA ?_
 with_reducible (apply xo_nil; (repeat first | apply xqT | apply xqB | apply xqS); (repeat apply xc_seq); apply xc_block)
 have hX0 : ∀ b, ¬ XW ([] : Hp) b := fun b ⟨e, he, _⟩ => by cases he
 refine xc_loopJ (γ := List (Nat × GatT)) (fun pre => pre.length ≤ gs.length) (fun pre => [(0, .func (.yield l) #[] #[]), (1, .pointer (some ⟨b1, 0, none⟩)), (3, .int .i64 ((gs.length : Int) - 1 - (pre.length : Int)))]) (fun _ => [])
  (fun pre V => ∃ O, IterRel J K W O pre V) (fun pre => gs.length - pre.length) [] (Nat.zero_le _) ⟨rfl, rfl, by simp [slot, putS], trivial⟩
  (fun V hV => ⟨⟨(fun e he => by cases he), List.nodup_nil⟩, ?_⟩) ?_
 ·obtain ⟨O, h, _⟩ := (IterRel.start (K := K) hJ0).step aJ hKW (fun i q => q.elim) hV (fun e he => by cases he)
  exact ⟨O, h⟩
 rintro pre hpl V hbok ⟨O, hJ⟩
 have hAV := hAW.keep K hKA hJ.2.1
 have h1V := h1W.blk (hJ.2.1 _ hK1)
 with_reducible ((repeat apply xc_seq); apply xcR)
 refine xoM ?_
 refine xo_geq rfl rfl rfl rfl ?_
 with_reducible (apply xo_nil; (repeat first | apply xqT | apply xqB | apply xqS); (repeat apply xc_seq))
 refine xc_cond rfl (fun h => ?_) (fun h => ?_)
 ·have hlt : pre.length < gs.length := by have := of_decide_eq_true h; omega
  obtain ⟨ad, rfl, hR⟩ := hAV (gs.length - 1 - pre.length) (by omega)
  have e1 : ((gs.length : Int) - 1 - (pre.length : Int)) = ((gs.length - 1 - pre.length : Nat) : Int) := by omega
  with_reducible (apply xc_skip; (repeat first | apply xqT | apply xqB | apply xqS))
  refine xc_slots [(0, .func (.yield l) #[] #[]), (1, .pointer (some ⟨b1, 0, none⟩)), (3, .int .i64 ((gs.length - 1 - pre.length : Nat) : Int))] ⟨rfl, rfl, by rw [← e1]; rfl, trivial⟩ ?_
  with_reducible ((repeat apply xc_seq); apply xc_block; (repeat apply xc_seq); apply xcR)
  refine xoM ?_
  refine xoM ?_
  refine xo_loadR0 T_ rfl rfl rfl (h1V.wr (hX0 _)) rfl ?_
  refine xoM ?_
  refine xo_ia T_ rfl rfl rfl rfl rfl ⟨by omega, by omega⟩ rfl ?_
  refine xo_loadRN T_ rfl rfl rfl (hR.wr (hX0 _)) rfl rfl ?_
  refine xo_yieldO (K := K) (W := W) (O := O) (gs.length - 1 - pre.length, gs.getD (gs.length - 1 - pre.length) zGat) [] rfl rfl rfl rfl aJ hKW hy hJ (fun i q => absurd q (hX0 i)) ⟨hlt, rfl⟩ (List.nil_sublist _) (fun e he => by cases he) (fun O' V' hr' _ _ => ?_) (fun O' V' hx' _ _ => ?_)
  rotate_left
  ·refine xo_notOp rfl rfl rfl ?_
   with_reducible (apply xo_nil; (repeat first | apply xqT | apply xqB | apply xqS))
   refine xc_condT rfl ?_
   with_reducible (apply xc_ret; (repeat (first | apply xq_thenR | apply xq_blockR | apply xq_scopeR)))
   exact xq_ret0 rfl fun w2 hw2 => ⟨⟨_, rfl⟩, .inr ⟨O', _, aJx O' O' _ V' w2 hx' (hw2.kx.mono fun i q => absurd q (hX0 i)) (fun i q => .inl q)⟩⟩
  refine xo_notOp rfl rfl rfl ?_
  with_reducible (apply xo_nil; (repeat first | apply xqT | apply xqB | apply xqS); (repeat apply xc_seq))
  refine xc_condF rfl ?_
  with_reducible (apply xc_skip; (repeat first | apply xqT | apply xqB | apply xqS); (repeat apply xc_seq); apply xcR)
  refine xoM ?_
  refine xo_sub rfl rfl rfl (by omega) rfl ?_
  refine xoA ?_
  with_reducible (apply xo_nil; (repeat first | apply xqT | apply xqB | apply xqS))
  refine xq_againJ _ _ _ _ _ _ (pre ++ [(gs.length - 1 - pre.length, gs.getD (gs.length - 1 - pre.length) zGat)]) (by simp; omega) (by simp; omega) ⟨rfl, rfl, ?_, trivial⟩ (fun w1 hw1 => ⟨hw1.bok (List.nil_sublist _), ?_⟩)
  ·simp [slot, putS]
   omega
  ·obtain ⟨O2, h2, _⟩ := hr'.step aJ hKW (fun i q => absurd q (hX0 i)) (hw1.sub (List.nil_sublist _)) (fun e he => by cases he)
   exact ⟨O2, h2⟩
 ·have hge : pre.length = gs.length := by have := of_decide_eq_false h; omega
  with_reducible (apply xc_exit; (repeat (first | apply xq_blockX | apply xq_thenE | refine xq_blockE rfl ?_ | apply xq_scopeE)))
  refine xq_end0 rfl fun w2 hw2 => ⟨⟨_, rfl⟩, .inl ?_⟩
  obtain ⟨O2, h2, _⟩ := hJ.step aJ hKW (fun i q => absurd q (hX0 i)) (hw2.sub (List.nil_sublist _)) (fun e he => by cases he)
  exact ⟨O2, pre, hge, h2.1⟩
theorem backwardF_calls (A : Option Addr) (n c : Nat) (w : World) : Calls Tryd.prog 86 #[.slice A n c] w fun e w' => ∃ b, e = .returned (.func (.func 101) #[] #[.pointer (some ⟨b, 0, none⟩)]) ∧ w.heap.size ≤ b ∧ w'.heap[b]? = some (.cells #[.slice A n c] 22 (0, 0)) ∧ Below w.heap.size w w' := by
 refine x_calls (X := XNone) Tryd.func86 rfl rfl rfl ?_
 with_reducible ((repeat apply xc_seq); apply xcR)
 refine xo_box rfl rfl rfl rfl (fun b1 => ?_)
 refine xoA ?_
 with_reducible (apply xo_nil; (repeat first | apply xqT | apply xqB | apply xqS); (repeat apply xc_seq); apply xcR)
 refine xo_mkf rfl rfl rfl rfl ?_
 refine xoA ?_
 with_reducible (apply xo_nil; (repeat first | apply xqT | apply xqB | apply xqS); (repeat apply xc_seq); apply xc_ret; (repeat (first | apply xq_thenR | apply xq_blockR | apply xq_scopeR)))
 exact xq_ret1 rfl rfl fun w' hw => ⟨b1, rfl, hw.own (List.Mem.head _), hw.obj (wr := true) (cs := [.slice A n c]) (List.Mem.head _), hw.kx.below⟩
theorem backwardF_enters : ∀ args w, (callFunc 86 args).run Tryd.prog w = .ok (.enter 86 args) w := enters_of Tryd.func86 (by kernel_rfl) rfl
abbrev DelT := (Nat × Nat) × List Int
def encD (x : DelT) : List Value := [.slice (some ⟨x.1.1, 0, none⟩) x.2.length x.1.2]
def haD (x : DelT) : Hp := [(x.1.1, true, orow 3 1 x.2.length x.1.2 (x.2.map (.int .i64)))]
def nextL (gs : List GatT) (pre : List DelT) (x : DelT) : Prop := ∃ rest, allD gs = pre.map (·.2) ++ x.2 :: rest
def marksH (Ds : List Nat) : Hp := Ds.map fun D => (D, true, hdef)
def GatesOK (gs : List GatT) : Prop := gs.length ≤ 6 ∧ ∀ g ∈ gs, 0 ≤ g.f2.f0 ∧ g.f2.f0 ≤ g.f2.f1 ∧ g.f2.f1 ≤ 60
def nowL (gs : List GatT) (k : Nat) : List Int := (leastD gs).take k ++ List.replicate (gs.length - k) 0
theorem leastD_len (gs : List GatT) : (leastD gs).length = gs.length := by simp [leastD]
theorem nowL_len (gs : List GatT) (k : Nat) (hk : k ≤ gs.length) : (nowL gs k).length = gs.length := by simp [nowL, leastD_len]; omega
theorem leastD_at (gs : List GatT) (k : Nat) (hk : k < gs.length) : (leastD gs)[k]? = some (gs.getD k zGat).f2.f0 := by
 simp [leastD, List.getD_eq_getElem?_getD, List.getElem?_eq_getElem hk]
theorem nowL_set (gs : List GatT) (k : Nat) (hk : k < gs.length) : (nowL gs k).set k (gs.getD k zGat).f2.f0 = nowL gs (k + 1) := by
 have h1 : ((leastD gs).take k).length = k := by simp [leastD_len]; omega
 have h2 : gs.length - k = (gs.length - (k + 1)) + 1 := by omega
 unfold nowL
 rw [List.set_append_right _ _ (by omega), h1, Nat.sub_self, h2, List.replicate_succ, List.set_cons_zero, List.take_add_one, leastD_at gs k hk]
 simp
theorem nowL_end (gs : List GatT) : nowL gs gs.length = leastD gs := by
 unfold nowL
 rw [Nat.sub_self, List.take_of_length_le (by rw [leastD_len]; exact Nat.le_refl _)]
 simp
def backL (gs : List GatT) (now : List Int) (p : Nat) : List Int := now.take (gs.length - p) ++ (leastD gs).drop (gs.length - p)
theorem backL_len (gs : List GatT) (now : List Int) (p : Nat) (hn : now.length = gs.length) : (backL gs now p).length = gs.length := by simp [backL, leastD_len, hn]
theorem backL_at (gs : List GatT) (now : List Int) (p : Nat) (hn : now.length = gs.length) (hp : p < gs.length) : (backL gs now p)[gs.length - 1 - p]? = some (now.getD (gs.length - 1 - p) 0) := by
 unfold backL
 rw [List.getElem?_append_left (by simp [hn]; omega), List.getElem?_take, if_pos (by omega)]
 simp [List.getD_eq_getElem?_getD, List.getElem?_eq_getElem (show gs.length - 1 - p < now.length by omega)]
theorem backL_set (gs : List GatT) (now : List Int) (p : Nat) (v : Int) (hn : now.length = gs.length) (hp : p < gs.length) : (backL gs now p).set (gs.length - 1 - p) v = now.take (gs.length - 1 - p) ++ v :: (leastD gs).drop (gs.length - p) := by
 unfold backL
 have h1 : gs.length - p = (gs.length - 1 - p) + 1 := by omega
 rw [List.set_append_left _ _ (by simp [hn]; omega)]
 rw [show now.take (gs.length - p) = now.take (gs.length - 1 - p) ++ [now.getD (gs.length - 1 - p) 0] by
  rw [h1, List.take_add_one]
  simp [List.getD_eq_getElem?_getD, List.getElem?_eq_getElem (show gs.length - 1 - p < now.length by omega)]]
 rw [List.set_append_right _ _ (by simp [hn]; omega)]
 have h3 : gs.length - 1 - p - min (gs.length - 1 - p) gs.length = 0 := by omega
 simp [hn, h3]
theorem backL_succ (gs : List GatT) (now : List Int) (p : Nat) (hn : now.length = gs.length) (hp : p < gs.length) : (backL gs now p).set (gs.length - 1 - p) (gs.getD (gs.length - 1 - p) zGat).f2.f0 = backL gs now (p + 1) := by
 rw [backL_set gs now p _ hn hp]
 unfold backL
 have h1 : gs.length - (p + 1) = gs.length - 1 - p := by omega
 rw [h1]
 congr 1
 have h2 : (leastD gs).length = gs.length := leastD_len gs
 rw [List.drop_eq_getElem_cons (show gs.length - 1 - p < (leastD gs).length by omega), show gs.length - p = gs.length - 1 - p + 1 by omega]
 congr 1
 have := leastD_at gs (gs.length - 1 - p) (by omega)
 rw [List.getElem?_eq_getElem (by omega)] at this
 exact (Option.some.inj this).symm
theorem split_at {α : Type} (xs : List α) (z : α) (k : Nat) (hk : k < xs.length) : xs.drop k = xs.getD k z :: xs.drop (k + 1) := drop_at xs z k hk
theorem nextD_back {gs : List GatT} {now : List Int} {p : Nat} (hn : now.length = gs.length) (hp : p < gs.length) (h : nextD (gs.drop (gs.length - p)) (now.drop (gs.length - p)) = none) (hlt : now.getD (gs.length - 1 - p) 0 < (gs.getD (gs.length - 1 - p) zGat).f2.f1) :
  nextD gs now = some ((backL gs now p).set (gs.length - 1 - p) (now.getD (gs.length - 1 - p) 0 + 1)) := by
 rw [backL_set gs now p _ hn hp]
 have h1 : gs.length - p = gs.length - 1 - p + 1 := by omega
 have h2 := nextD_app (g1 := gs.take (gs.length - 1 - p)) (l1 := now.take (gs.length - 1 - p)) (g2 := gs.drop (gs.length - 1 - p)) (l2 := now.drop (gs.length - 1 - p)) (by simp [hn]) (r := (now.getD (gs.length - 1 - p) 0 + 1) :: leastD (gs.drop (gs.length - p))) (by
  rw [split_at gs zGat _ (by omega), split_at now 0 _ (by omega), ← h1]
  exact nextD_some_cons h hlt)
 rw [List.take_append_drop, List.take_append_drop] at h2
 rw [h2]
 simp [leastD, List.map_drop]
theorem nextD_back2 {gs : List GatT} {now : List Int} {p : Nat} (hn : now.length = gs.length) (hp : p < gs.length) (h : nextD (gs.drop (gs.length - p)) (now.drop (gs.length - p)) = none) (hlt : ¬ now.getD (gs.length - 1 - p) 0 < (gs.getD (gs.length - 1 - p) zGat).f2.f1) :
  nextD (gs.drop (gs.length - (p + 1))) (now.drop (gs.length - (p + 1))) = none := by
 have h1 : gs.length - p = gs.length - 1 - p + 1 := by omega
 rw [show gs.length - (p + 1) = gs.length - 1 - p by omega, split_at gs zGat _ (by omega), split_at now 0 _ (by omega), ← h1]
 exact nextD_none_cons h hlt
theorem delays1_enters : ∀ args w, (callFunc 84 args).run Tryd.prog w = .ok (.enter 84 args) w := enters_of Tryd.func84 (by kernel_rfl) rfl
theorem map_set_int (l : List Int) (k : Nat) (v : Int) : (l.map (Value.int .i64)).set k (.int .i64 v) = (l.set k v).map (.int .i64) := by rw [List.map_set]
theorem map_rep0 (n : Nat) : List.replicate n (Value.int .i64 0) = (List.replicate n (0 : Int)).map (.int .i64) := by simp
set_option maxHeartbeats 20000000 in
theorem delays_seq (n : Nat) (R E : Int) (gs : List GatT) (A B : Option Addr) (c m c2 : Nat) (b1 : Nat) (K : Nat → Prop) (w : World) (hg : GatesOK gs) (hA : RowOf gatV 4 zGat w A gs) (h1 : RO w XNone ⟨b1, 0, none⟩ (scnV R A gs.length c E B m c2)) (hKlt : ∀ k, K k → k < w.heap.size) (hK1 : K b1) (hKA : 0 < gs.length → holdsA K A) :
  SeqO n Tryd.prog 84 [.pointer (some ⟨b1, 0, none⟩)] encD haD (nextL gs) (fun xs => xs.map (·.2) = allD gs) K w := by
 obtain ⟨hg6, hgo⟩ := hg
 have hgle : ∀ g ∈ gs, g.f2.f0 ≤ g.f2.f1 := fun g hm => (hgo g hm).2.1
 intro l J Jx W hbW aJ aJx hJ0 hy
 have hAW := hA.below hbW
 have h1W : RO W XNone ⟨b1, 0, none⟩ (scnV R A gs.length c E B m c2) := fun j v hj => ⟨(Kx.of_below (X := XNone) hbW).cell (h1 j v hj).1 (fun q => q), fun q => q⟩
 have hKW : ∀ k, K k → k < W.heap.size := fun k hk => Nat.lt_of_lt_of_le (hKlt k hk) hbW.size
 clear hA h1 hbW
 refine x_iterM Tryd.func84 rfl rfl rfl (WOK.start XNone W) ?_
 with_reducible (apply xc_scope; (repeat apply xc_seq); apply xcR)
 refine xo_faR T_ rfl rfl rfl rfl rfl ?_
 refine xo_loadR0 T_ rfl rfl rfl (h1W.fld (j := 1) rfl) rfl ?_
 refine xo_len T_ rfl rfl rfl rfl ?_
 refine xo_mks TR_ (m := gs.length) rfl rfl rfl rfl rfl rfl (by omega) (by omega) rfl (fun b11 => ?_)
 refine xo_alloc T_ rfl rfl rfl rfl (fun b3 => ?_)
 refine xo_store T_ rfl rfl rfl rfl (by repeat first | exact mH | apply mT | apply mA) rfl rfl rfl rfl (by repeat first | exact Upd.head | apply Upd.tail | apply Upd.app) rfl ?_
 with_reducible (apply xo_nil; (repeat first | apply xqT | apply xqB | apply xqS); (repeat apply xc_seq); apply xcR)
 refine xo_faR T_ rfl rfl rfl rfl rfl ?_
 refine xo_loadR0 T_ rfl rfl rfl (h1W.fld (j := 1) rfl) rfl ?_
 refine xo_len T_ rfl rfl rfl rfl ?_
 refine xoM ?_
 with_reducible (apply xo_nil; (repeat first | apply xqT | apply xqB | apply xqS); (repeat apply xc_seq); apply xc_block)
 refine xc_loop (γ := Nat) (fun k => k ≤ gs.length) (fun k => [(0, .func (.yield l) #[] #[]), (1, .pointer (some ⟨b1, 0, none⟩)), (3, .pointer (some ⟨b3, 0, none⟩)), (13, .slice A gs.length c), (14, .int .i64 (gs.length : Int)), (15, .int .i64 (k : Int))])
  (fun k => [(b3, true, cel [.slice (some ⟨b11, 0, none⟩) gs.length gs.length] 34), (b11, true, cel ((nowL gs k).map (.int .i64)) 3)]) (fun k => gs.length - k) 0 (Nat.zero_le _) ⟨rfl, rfl, rfl, rfl, rfl, rfl, trivial⟩ (by rw [map_rep0]; simp only [nowL, List.take_zero, List.nil_append, Nat.sub_zero]; exact (by repeat (first | exact List.Sublist.refl _ | apply List.Sublist.cons_cons | apply List.Sublist.cons | exact List.nil_sublist _))) ?_
 intro k hk
 with_reducible ((repeat apply xc_seq); apply xcR)
 refine xo_lss rfl rfl rfl rfl ?_
 with_reducible (apply xo_nil; (repeat first | apply xqT | apply xqB | apply xqS); (repeat apply xc_seq))
 refine xc_cond rfl (fun h => ?_) (fun h => ?_)
 ·have hlt : k < gs.length := by have := of_decide_eq_true h; omega
  obtain ⟨ad, rfl, hR⟩ := hAW k hlt
  have hset := nowL_set gs k hlt
  have hlen := nowL_len gs k (by omega)
  generalize gs.getD k zGat = g at hR hset
  with_reducible (apply xc_skip; (repeat first | apply xqT | apply xqB | apply xqS); (repeat apply xc_seq); apply xc_block; (repeat apply xc_seq); apply xcR)
  refine xoM ?_
  refine xo_ia T_ rfl rfl rfl rfl rfl ⟨by omega, by omega⟩ rfl ?_
  refine xo_loadRN T_ rfl rfl rfl (by assumption) rfl rfl ?_
  refine xo_alloc T_ rfl rfl rfl rfl (fun b5 => ?_)
  refine xoA ?_
  refine xo_store T_ rfl rfl rfl rfl (by repeat first | exact mH | apply mT | apply mA) rfl rfl rfl rfl (by repeat first | exact Upd.head | apply Upd.tail | apply Upd.app) rfl ?_
  with_reducible (apply xo_nil; (repeat first | apply xqT | apply xqB | apply xqS); (repeat apply xc_seq); apply xcR)
  refine xo_load0 T_ rfl rfl rfl (by repeat first | exact mH | apply mT | apply mA) rfl rfl ?_
  refine xoM ?_
  refine xo_fa T_ rfl rfl rfl rfl rfl ?_
  refine xo_fa T_ rfl rfl rfl rfl rfl ?_
  refine xo_load0 T_ rfl rfl rfl (by repeat first | exact mH | apply mT | apply mA) rfl rfl ?_
  refine xo_ia T_ rfl rfl rfl rfl rfl ⟨by omega, by omega⟩ rfl ?_
  refine xo_storeI T_ (k := (k : Int).toNat * szN 0) rfl rfl rfl rfl (by repeat first | exact mH | apply mT | apply mA) rfl rfl (by simp [szN, hlen]; omega) (by repeat first | exact Upd.head | apply Upd.tail | apply Upd.app) rfl ?_
  with_reducible (apply xo_nil; (repeat first | apply xqT | apply xqB | apply xqS); (repeat apply xc_seq); apply xcR)
  refine xo_add rfl rfl rfl (by omega) rfl ?_
  refine xoM ?_
  with_reducible (apply xo_nil; (repeat first | apply xqT | apply xqB | apply xqS))
  exact xq_again _ _ _ _ _ (k + 1) (by omega) (by omega) ⟨rfl, rfl, rfl, rfl, rfl, rfl, trivial⟩ (by
   rw [← hset, ← map_set_int, show 0 + (k : Int).toNat * szN 0 = k by simp [szN]]
   exact (by repeat (first | exact List.Sublist.refl _ | apply List.Sublist.cons_cons | apply List.Sublist.cons | exact List.nil_sublist _)))
 have hge : k = gs.length := by have := of_decide_eq_false h; omega
 subst hge
 rw [nowL_end]
 with_reducible (apply xc_exit; (repeat (first | apply xq_blockX | apply xq_thenE | refine xq_blockE rfl ?_ | apply xq_scopeE)); (repeat first | apply xqT | apply xqB | apply xqS); (repeat apply xc_seq); apply xc_label; (repeat first | apply xqT | apply xqB | apply xqS); (repeat apply xc_seq); apply xc_block)
 have hbn : ∀ i, ¬ XNone i := fun i q => q
 let H3 : List Nat → List Int → Hp := fun Ds now => marksH Ds ++ [(b3, true, cel [.slice (some ⟨b11, 0, none⟩) gs.length gs.length] 34), (b11, true, cel (now.map (.int .i64)) 3)]
 have hH3s : ∀ Ds (L : List Int) k v, H3 Ds (L.set k v) = marksH Ds ++ [(b3, true, cel [.slice (some ⟨b11, 0, none⟩) gs.length gs.length] 34), (b11, true, cel ((L.map (.int .i64)).set k (.int .i64 v)) 3)] := fun Ds L k v => by rw [map_set_int]
 have hH3w : ∀ Ds now, ∀ e ∈ H3 Ds now, e.2.1 = true := by
  intro Ds now e he
  rcases List.mem_append.1 he with he | he
  ·obtain ⟨D, _, rfl⟩ := List.mem_map.1 he; rfl
  ·simp only [List.mem_cons, List.not_mem_nil, or_false] at he
   rcases he with rfl | rfl <;> rfl
 refine xc_loopM (γ := List DelT × List Nat × List Int) (fun g => allD gs = g.1.map (·.2) ++ tailD gs g.2.2 ∧ okD gs g.2.2) (fun g => [(0, .func (.yield l) #[] #[]), (1, .pointer (some ⟨b1, 0, none⟩)), (3, .pointer (some ⟨b3, 0, none⟩))])
  (fun g => H3 g.2.1 g.2.2) (fun g => g.2.1.map mark_) (fun g V => ∃ O, IterRel J K W O g.1 V ∧ ∀ i, XW (H3 g.2.1 g.2.2) i → O i ∧ W.heap.size ≤ i) (fun g => (tailD gs g.2.2).length) ([], [], leastD gs) ⟨by rw [tailD_least hgle]; rfl, least_ok hgle⟩ rfl ⟨rfl, rfl, rfl, trivial⟩ (fun V hV => ⟨hV.bok (List.Sublist.refl _), ?_⟩) ?_
 ·obtain ⟨O, h2, h3, _⟩ := (IterRel.start (K := K) hJ0).step aJ hKW (fun i q => q.elim) hV (hH3w [] (leastD gs))
  exact ⟨O, h2, fun i ⟨e, he, _, hi⟩ => hi ▸ h3 e he⟩
 rintro ⟨pre, Ds, now⟩ ⟨hall, hok⟩ V hbok ⟨O, hJ, hO⟩
 simp only at hall hok hbok hJ hO ⊢
 have hlen : now.length = gs.length := okD_len hok
 have hall' := hall
 rw [tailD_step hgle hok] at hall'
 have hT : ∀ b cap, nextL gs pre ((b, cap), now) := fun b cap => ⟨_, hall'⟩
 with_reducible ((repeat apply xc_seq); apply xcR)
 refine xoM ?_
 refine xo_load0 T_ rfl rfl rfl (by repeat first | exact mH | apply mT | apply mA) rfl rfl ?_
 refine xo_call (fs := []) (cs := []) rfl rfl rfl cloneI_enters rfl (fun w1 hw1 => (cloneI_calls b11 now gs.length w1 hlen.symm (by omega) (hw1.ro (wr := true) (t := 3) (by repeat first | exact mH | apply mT | apply mA))).mono ?_)
 rintro e w2 ⟨b, cap, rfl, hb1, ⟨o, ho, hφ⟩, hb⟩
 refine ⟨_, _, rfl, hw1.more hb hb1 ho hφ, ?_⟩
 clear hb ho hφ hb1 hw1
 refine xo_yieldO (K := K) (W := W) (O := O) (enc := encD) (HA := haD) ((b, cap), now) (H3 Ds now) rfl rfl (by simp only [encD, hlen]; rfl) rfl aJ hKW hy hJ hO (hT b cap) (by simp only [haD, hlen]; exact List.Sublist.refl _) ?_ (fun O' V' hr' hb' hO' => ?_) (fun O' V' hx' hb' hO' => ?_)
 ·intro e he
  rcases List.mem_cons.1 he with rfl | he
  ·rfl
  ·exact hH3w Ds now e he
 rotate_left
 ·with_reducible apply xo_nil
  with_reducible (repeat first | apply xqT | apply xqB | apply xqS)
  refine xc_condF rfl ?_
  with_reducible (apply xc_exit; (repeat (first | apply xq_blockX | apply xq_thenE | refine xq_blockE rfl ?_ | apply xq_scopeE)); (repeat first | apply xqT | apply xqB | apply xqS))
  refine xq_ofMn Ds (xq_end0 rfl fun w2 hw2 => ⟨⟨_, rfl⟩, .inr ⟨O', _, aJx O' O' _ V' w2 hx' (hw2.kx.mono hO') (fun i q => .inl q)⟩⟩)
 with_reducible (apply xo_nil; (repeat first | apply xqT | apply xqB | apply xqS); (repeat apply xc_seq))
 refine xc_condT rfl ?_
 with_reducible (apply xc_skip; (repeat first | apply xqT | apply xqB | apply xqS); (repeat apply xc_seq); apply xc_block)
 have hAV' := hAW.keep K hKA hr'.2.1
 have h1V' := h1W.blk (hr'.2.1 _ hK1)
 have hnX : ∀ k, K k → ¬ XW (H3 Ds now) k := fun k hk q => absurd (hKW k hk) (Nat.not_lt.2 (hO' k q).2)
 with_reducible ((repeat apply xc_seq); apply xcR)
 refine xo_faR T_ rfl rfl rfl rfl rfl ?_
 refine xo_loadR0 T_ rfl rfl rfl ((h1V'.wr (hnX _ hK1)).fld (j := 1) rfl) rfl ?_
 refine xo_call (fs := []) (cs := []) rfl rfl rfl backwardF_enters rfl (fun w1 hw1 => (backwardF_calls A gs.length c w1).mono ?_)
 rintro e w2 ⟨bb, rfl, hb1, ho, hb⟩
 refine ⟨_, _, rfl, hw1.more (φ := cel [.slice A gs.length c] 22) hb hb1 ho rfl, ?_⟩
 clear hb ho hb1 hw1
 with_reducible (apply xo_nil; (repeat first | apply xqT | apply xqB | apply xqS))
 refine xc_know (φ := ∀ e ∈ H3 Ds now, e.1 ≠ bb) (fun w1 hw1 e he q => ?_) fun hbb => ?_
 ·have := hw1.nd
  simp only [List.map_cons, List.nodup_cons] at this
  exact this.1 (List.mem_map.2 ⟨e, he, q⟩)
 with_reducible ((repeat apply xc_seq); apply xc_block)
 have hxw : ∀ Ls (e : Nat × Bool × HP), e ∈ H3 Ds Ls → ∃ e' ∈ H3 Ds now, e'.1 = e.1 := by
  intro Ls e he
  rcases List.mem_append.1 he with he | he
  ·exact ⟨e, List.mem_append_left _ he, rfl⟩
  ·simp only [List.mem_cons, List.not_mem_nil, or_false] at he
   rcases he with rfl | rfl
   ·exact ⟨_, List.mem_append_right _ (List.Mem.head _), rfl⟩
   ·exact ⟨_, List.mem_append_right _ (List.Mem.tail _ (List.Mem.head _)), rfl⟩
 have hWl : ∀ Ls (e : Nat × Bool × HP), e ∈ H3 Ds Ls → W.heap.size ≤ e.1 := fun Ls e he => by
  obtain ⟨e', he', q⟩ := hxw Ls e he
  rw [← q]
  exact (hO' e'.1 ⟨e', he', hH3w Ds now e' he', rfl⟩).2
 have hback0 : backL gs now 0 = now := by
  unfold backL
  rw [Nat.sub_zero, List.take_of_length_le (by omega), List.drop_of_length_le (by rw [leastD_len]; exact Nat.le_refl _), List.append_nil]
 refine xc_rangeO (α := Nat × GatT) (β := Nat) (γ := Unit) (enc := encB) (HA := fun _ => []) (T := nextB gs) (S := fun xs => xs.length = gs.length) rfl backward_enters rfl (fun x => rfl)
  (fun k => K k ∨ k = bb) (fun w1 hw1 k hk => ?_) (fun w1 hw1 => ?_) (fun p _ => nextD (gs.drop (gs.length - p.length)) (now.drop (gs.length - p.length)) = none ∧ p.length ≤ gs.length) (fun p _ => H3 Ds (backL gs now p.length)) () ⟨?_, Nat.zero_le _⟩ ?_
  (fun p _ _ e he => ?_) (fun p _ _ e he _ hk => ?_) (fun c p _ => c = .exit 3 ∧ ∃ l, nextD gs now = some l) (fun c p _ => H3 Ds ((nextD gs now).getD [])) (fun c p _ _ e he => ?_)
  (fun x y => [(1, .pointer (some ⟨b1, 0, none⟩)), (3, .pointer (some ⟨b3, 0, none⟩)), (6, .int .i64 (x.1 : Int)), (7, .pointer (some ⟨y, 0, none⟩))]) (fun x y => [(y, true, cel (gatV x.2) 57)]) (fun x y e he => ?_) (fun l' x V0 => ?_) (fun l' p x y g V0 hC hT2 hw0 => ?_) (fun D xs g hS hC => ?_) (fun D c p g hCx => ?_)
 ·rcases hk with hk | hk
  ·exact Nat.lt_of_lt_of_le (hKW k hk) (Nat.le_trans hr'.2.2 hw1.kx.size)
  ·subst hk
   exact hw1.lt (e := (k, true, cel [.slice A gs.length c] 22)) (List.Mem.head _)
 ·refine backward_seq _ gs A c bb _ w1 hg6 (hAV'.keep K hKA fun k hk => hw1.kx.block k (Nat.lt_of_lt_of_le (hKW k hk) hr'.2.2) (hnX k hk)) (hw1.ro (wr := true) (t := 22) (List.Mem.head _)) ?_ (.inr rfl) (fun h0 ad e => .inl (hKA h0 ad e))
  intro k hk
  rcases hk with hk | hk
  ·exact Nat.lt_of_lt_of_le (hKW k hk) (Nat.le_trans hr'.2.2 hw1.kx.size)
  ·subst hk
   exact hw1.lt (e := (k, true, cel [.slice A gs.length c] 22)) (List.Mem.head _)
 ·rw [List.length_nil, Nat.sub_zero, List.drop_of_length_le (Nat.le_refl _)]
  rfl
 ·rw [List.length_nil, hback0]
  exact List.sublist_cons_self _ _
 ·obtain ⟨e', he', q⟩ := hxw _ e he
  exact .inr ⟨e', List.mem_cons_of_mem _ he', q⟩
 ·rcases hk with hk | hk
  ·exact absurd (hKW _ hk) (Nat.not_lt.2 (hWl _ e he))
  ·obtain ⟨e', he', q⟩ := hxw _ e he
   exact hbb e' he' (q.trans hk)
 ·obtain ⟨e', he', q⟩ := hxw _ e he
  exact .inr ⟨e', List.mem_cons_of_mem _ he', q⟩
 ·simp only [List.mem_cons, List.not_mem_nil, or_false] at he
  subst he
  exact ⟨rfl, fun o ho => by rw [show o = _ from ho]; rfl⟩
 ·with_reducible repeat apply xc_seq
  with_reducible apply xcR
  refine xoA ?_
  with_reducible (apply xo_nil; (repeat first | apply xqT | apply xqB | apply xqS); (repeat apply xc_seq); apply xcR)
  refine xo_alloc T_ rfl rfl rfl rfl (fun b7 => ?_)
  refine xo_store T_ rfl rfl rfl rfl (by repeat first | exact mH | apply mT | apply mA) rfl rfl rfl rfl (by repeat first | exact Upd.head | apply Upd.tail | apply Upd.app) rfl ?_
  with_reducible (apply xo_nil; (repeat first | apply xqT | apply xqB | apply xqS))
  exact fun a w1 ha hw1 => ⟨b7, ha.sub ⟨rfl, rfl, rfl, rfl, trivial⟩, hw1⟩
 ·obtain ⟨hC1, hC2⟩ := hC
  obtain ⟨hlt, rfl⟩ := hT2
  have hbl := backL_len gs now p.length hlen
  have hba := backL_at gs now p.length hlen hlt
  have hb1' := fun h => nextD_back hlen hlt hC1 h
  have hb2' := fun h => nextD_back2 hlen hlt hC1 h
  have hbs := backL_succ gs now p.length hlen hlt
  have hbd := okD_at hok (gs.length - 1 - p.length) (by omega)
  have hgd := hgo _ (getD_mem gs zGat (gs.length - 1 - p.length) (by omega))
  generalize gs.getD (gs.length - 1 - p.length) zGat = g at hb1' hb2' hbs hbd hgd
  have hil : gs.length - 1 - p.length < gs.length := by omega
  generalize gs.length - 1 - p.length = i at hba hb1' hb2' hbs hbd hil
  generalize now.getD i 0 = v at hba hb1' hb2' hbd
  have hi0 : 0 + (i : Int).toNat * szN 0 = i := by simp [szN]
  with_reducible ((repeat apply xc_seq); apply xc_block; (repeat apply xc_seq))
  apply xc_drawN
  ·exact T_.mixed
  ·rfl
  ·rfl
  ·rfl
  ·rfl
  ·apply DrawOps.cons
   ·intro τ
    refine xo_load0 T_ rfl rfl rfl (by repeat first | exact mH | apply mT | apply mA) rfl rfl ?_
    exact xoF
   apply DrawOps.cons
   ·intro τ
    refine xoM ?_
    exact xoF
   apply DrawOps.cons
   ·intro τ
    refine xo_ia T_ rfl rfl rfl rfl rfl ⟨by omega, by omega⟩ rfl ?_
    exact xoF
   apply DrawOps.cons
   ·intro τ
    refine xo_loadI T_ (k := (i : Int).toNat * szN 0) (v := .int .i64 v) rfl rfl rfl (by repeat first | exact mH | apply mT | apply mA) (by rw [hi0, List.getElem?_map, hba]; rfl) rfl ?_
    exact xoF
   apply DrawOps.cons
   ·intro τ
    refine xo_fa T_ rfl rfl rfl rfl rfl ?_
    exact xoF
   apply DrawOps.cons
   ·intro τ
    refine xo_fa T_ rfl rfl rfl rfl rfl ?_
    exact xoF
   apply DrawOps.cons
   ·intro τ
    refine xo_load0 T_ rfl rfl rfl (by repeat first | exact mH | apply mT | apply mA) rfl rfl ?_
    exact xoF
   apply DrawOps.cons
   ·intro τ
    refine xo_lss rfl rfl rfl rfl ?_
    exact xoF
   exact DrawOps.nil
  ·rfl
  with_reducible ((repeat first | apply xqT | apply xqB | apply xqS); (repeat apply xc_seq))
  refine xc_cond rfl (fun h => ?_) (fun h => ?_)
  ·have hv := of_decide_eq_true h
   have hn := hb1' hv
   with_reducible ((repeat apply xc_seq); apply xcR)
   refine xo_load0 T_ rfl rfl rfl (by repeat first | exact mH | apply mT | apply mA) rfl rfl ?_
   refine xoM ?_
   refine xo_ia T_ rfl rfl rfl rfl rfl ⟨by omega, by omega⟩ rfl ?_
   refine xo_loadI T_ (k := (i : Int).toNat * szN 0) (v := .int .i64 v) rfl rfl rfl (by repeat first | exact mH | apply mT | apply mA) (by rw [hi0, List.getElem?_map, hba]; rfl) rfl ?_
   refine xo_add rfl rfl rfl (by omega) rfl ?_
   refine xo_ia T_ rfl rfl rfl rfl rfl ⟨by omega, by omega⟩ rfl ?_
   refine xo_storeI T_ (k := (i : Int).toNat * szN 0) rfl rfl rfl rfl (by repeat first | exact mH | apply mT | apply mA) rfl rfl (by rw [hi0, List.length_map, hbl]; exact hil) (by repeat first | exact Upd.head | apply Upd.tail | apply Upd.app) rfl ?_
   with_reducible (apply xo_nil; (repeat first | apply xqT | apply xqB | apply xqS); apply xc_exit; (repeat (first | apply xq_blockX | apply xq_thenE | refine xq_blockE rfl ?_ | apply xq_scopeE)))
   intro a w1 ha hw1
   refine ⟨(), ⟨rfl, _, hn⟩, ?_⟩
   rw [hn, Option.getD_some, hH3s]
   rw [hi0] at hw1
   exact hw1.sub (List.sublist_cons_self _ _)
  ·have hv := of_decide_eq_false h
   have hn := hb2' hv
   with_reducible (apply xc_skip; (repeat first | apply xqT | apply xqB | apply xqS); (repeat apply xc_seq); apply xcR)
   refine xo_load0 T_ rfl rfl rfl (by repeat first | exact mH | apply mT | apply mA) rfl rfl ?_
   refine xoM ?_
   refine xo_fa T_ rfl rfl rfl rfl rfl ?_
   refine xo_fa T_ rfl rfl rfl rfl rfl ?_
   refine xo_load0 T_ rfl rfl rfl (by repeat first | exact mH | apply mT | apply mA) rfl rfl ?_
   refine xo_ia T_ rfl rfl rfl rfl rfl ⟨by omega, by omega⟩ rfl ?_
   refine xo_storeI T_ (k := (i : Int).toNat * szN 0) rfl rfl rfl rfl (by repeat first | exact mH | apply mT | apply mA) rfl rfl (by rw [hi0, List.length_map, hbl]; exact hil) (by repeat first | exact Upd.head | apply Upd.tail | apply Upd.app) rfl ?_
   with_reducible (apply xo_nil; (repeat first | apply xqT | apply xqB | apply xqS))
   intro a w1 ha hw1
   refine ⟨(), ⟨by rw [List.length_append]; exact hn, by simp; omega⟩, ?_⟩
   rw [List.length_append, List.length_singleton, ← hbs, hH3s]
   rw [hi0] at hw1
   exact hw1.sub (List.sublist_cons_self _ _)
 ·obtain ⟨hC1, hC2⟩ := hC
  have hnn : nextD gs now = none := by simpa [hS] using hC1
  rw [hnn] at hall'
  with_reducible ((repeat first | apply xqT | apply xqB | apply xqS); (repeat apply xc_seq); apply xc_ret; (repeat (first | apply xq_thenR | apply xq_blockR | apply xq_scopeR)))
  refine xq_ofM (D :: Ds) (xq_ret0 rfl fun w2 hw2 => ⟨⟨_, rfl⟩, .inl ?_⟩)
  obtain ⟨O2, h2, _⟩ := hr'.step aJ hKW hO' (hw2.sub (List.nil_sublist _)) (fun e he => by cases he)
  exact ⟨O2, _, by rw [hall']; simp, h2.1⟩
 ·obtain ⟨rfl, now', hnn⟩ := hCx
  rw [hnn] at hall' ⊢
  rw [Option.getD_some]
  have htl : (tailD gs now).length = (tailD gs now').length + 1 := by rw [tailD_step hgle hok, hnn]; rfl
  with_reducible (apply xc_exit; (repeat (first | apply xq_blockX | apply xq_thenE | refine xq_blockE rfl ?_ | apply xq_scopeE)); (repeat first | apply xqT | apply xqB | apply xqS))
  refine xq_againM (γ := List DelT × List Nat × List Int) _ _ _ _ _ _ _ (pre ++ [((b, cap), now)], D :: Ds, now') ⟨by simpa using hall', next_ok hgle hok hnn⟩ (by simp only; omega) rfl ⟨rfl, rfl, rfl, trivial⟩ (fun w1 hw1 => ⟨hw1.bok (List.Sublist.refl _), ?_⟩)
  obtain ⟨O2, h2, h3, _⟩ := hr'.step aJ hKW hO' hw1 (hH3w (D :: Ds) now')
  exact ⟨O2, h2, fun i ⟨e, he, _, hi⟩ => hi ▸ h3 e he⟩
theorem delays_calls (sv : List Value) (w : World) : Calls Tryd.prog 57 #[.agg sv.toArray] w fun e w' => ∃ b, e = .returned (.func (.func 84) #[] #[.pointer (some ⟨b, 0, none⟩)]) ∧ w.heap.size ≤ b ∧ w'.heap[b]? = some (.cells sv.toArray 25 (0, 0)) ∧ Below w.heap.size w w' := by
 refine x_calls (X := XNone) Tryd.func57 rfl rfl rfl ?_
 with_reducible ((repeat apply xc_seq); apply xcR)
 refine xo_box rfl rfl rfl rfl (fun b1 => ?_)
 refine xoA ?_
 with_reducible (apply xo_nil; (repeat first | apply xqT | apply xqB | apply xqS); (repeat apply xc_seq); apply xcR)
 refine xo_mkf rfl rfl rfl rfl ?_
 refine xoA ?_
 with_reducible (apply xo_nil; (repeat first | apply xqT | apply xqB | apply xqS); (repeat apply xc_seq); apply xc_ret; (repeat (first | apply xq_thenR | apply xq_blockR | apply xq_scopeR)))
 exact xq_ret1 rfl rfl fun w' hw => ⟨b1, rfl, hw.own (List.Mem.head _), hw.obj (wr := true) (List.Mem.head _), hw.kx.below⟩
theorem delays_enters : ∀ args w, (callFunc 57 args).run Tryd.prog w = .ok (.enter 57 args) w := enters_of Tryd.func57 (by kernel_rfl) rfl
def matV (F : Nat → Nat → Int) : List Value := (List.range 36).map fun i => .int .i64 (F (i / 6) (i % 6))
theorem matV_len (F : Nat → Nat → Int) : (matV F).length = 36 := by simp [matV]
theorem matV_at (F : Nat → Nat → Int) {a b : Nat} (ha : a < 6) (hb : b < 6) : (matV F)[6 * a + b]? = some (.int .i64 (F a b)) := by
 unfold matV
 rw [List.getElem?_map, List.getElem?_range (by omega)]
 have h1 : (6 * a + b) / 6 = a := by omega
 have h2 : (6 * a + b) % 6 = b := by omega
 simp [h1, h2]
theorem matV_set (F : Nat → Nat → Int) {a b : Nat} (ha : a < 6) (hb : b < 6) (v : Int) : (matV F).set (6 * a + b) (.int .i64 v) = matV (updM F a b v) := by
 refine List.ext_getElem? fun i => ?_
 unfold matV
 rw [List.getElem?_set]
 simp only [List.getElem?_map, List.length_map, List.length_range]
 by_cases hi : i < 36
 ·rw [List.getElem?_range hi]
  by_cases e : 6 * a + b = i
  ·rw [if_pos e, if_pos (by omega)]
   have h1 : i / 6 = a := by omega
   have h2 : i % 6 = b := by omega
   simp [updM, h1, h2]
  ·rw [if_neg e]
   have : ¬ (i / 6 = a ∧ i % 6 = b) := fun q => e (by omega)
   simp [updM, this]
 ·rw [List.getElem?_eq_none (by simp; omega), if_neg (by omega)]
  rfl
theorem matV_congr {F G : Nat → Nat → Int} (h : ∀ a b, a < 6 → b < 6 → F a b = G a b) : matV F = matV G := by
 unfold matV
 refine List.map_congr_left fun i hi => ?_
 have := List.mem_range.1 hi
 rw [h _ _ (by omega) (by omega)]
theorem matV_zero : matV (fun _ _ => 0) = List.replicate 36 (.int .i64 0) := by
 refine List.ext_getElem? fun i => ?_
 unfold matV
 by_cases hi : i < 36
 ·rw [List.getElem?_map, List.getElem?_range hi, List.getElem?_replicate, if_pos hi]; rfl
 ·rw [List.getElem?_eq_none (by simp; omega), List.getElem?_eq_none (by simp; omega)]
theorem matV_one (F : Nat → Nat → Int) : ∀ u ∈ matV F, u.oneCell' = true := fun u hu => by
 obtain ⟨i, _, rfl⟩ := List.mem_map.1 hu
 rfl
section
variable {P : Program} {ro : Option Nat} {n N : Nat} {ds : List Deferred} {w0 : World} {X : Nat → Prop} {Q : Exit → Act → World → Prop} {σ : Slots} {η : Hp} {ops rest : List Oper} {d : Option Tmp} {ty : TypeId} {pos : String} {aft : Array Edge} {g : Option (Nat × Bool)}
theorem matIx {a b : Nat} : 0 + (a : Int).toNat * szN 6 + (b : Int).toNat * szN 0 = 6 * a + b := by
 have h1 : szN 6 = 6 := rfl
 have h2 : szN 0 = 1 := rfl
 rw [h1, h2]
 omega
theorem matIxG {x y : Int} : 0 + x.toNat * szN 6 + y.toNat * szN 0 = 6 * x.toNat + y.toNat := by
 have h1 : szN 6 = 6 := rfl
 have h2 : szN 0 = 1 := rfl
 rw [h1, h2]
 omega
theorem xo_loadM (T : Tys P) {t : TypeId} {x : Operand} {bM a b o : Nat} {wr : Bool} {F : Nat → Nat → Int} {te : TypeId} (hg : gS ops σ g = some true) (ht : look t T.tk = some 0) (hx : ev σ x = some (.pointer (some ⟨bM, o, none⟩))) (ho : o = 6 * a + b) (ha : a < 6) (hb : b < 6)
  (hm : (bM, wr, cel (matV F) te) ∈ η) (hN : dstOK N d = true) (h : XO P ro n N ds w0 X Q ops (putS d (.int .i64 (F a b)) σ) η rest) : XO P ro n N ds w0 X Q ops σ η (⟨d, .load t x, ty, pos, aft, g⟩ :: rest) :=
 xo_load0 T hg ht hx hm (by rw [nth_eq, ho]; exact matV_at F ha hb) hN h
theorem xo_storeM (T : Tys P) {t : TypeId} {p x : Operand} {bM a b o : Nat} {F : Nat → Nat → Int} {te : TypeId} {v : Int} {η' : Hp} (hg : gS ops σ g = some true) (ht : look t T.tk = some 0) (hp : ev σ p = some (.pointer (some ⟨bM, o, none⟩))) (hx : ev σ x = some (.int .i64 v)) (ho : o = 6 * a + b) (ha : a < 6) (hb : b < 6)
  (hm : (bM, true, cel (matV F) te) ∈ η) (hU : Upd bM (cel (matV (updM F a b v)) te) η η') (hN : dstOK N d = true) (h : XO P ro n N ds w0 X Q ops (putS d undef σ) η' rest) : XO P ro n N ds w0 X Q ops σ η (⟨d, .store t p x, ty, pos, aft, g⟩ :: rest) :=
 xo_storeL T hg ht hp hx hm rfl rfl (by rw [ho, matV_len]; omega) (by rw [ho, matV_set F ha hb]; exact hU) hN h
theorem xo_perm {η' : Hp} (hp : List.Perm η η') (h : XO P ro n N ds w0 X Q ops σ η' rest) : XO P ro n N ds w0 X Q ops σ η rest := fun a w ha hw => h a w ha (hw.perm hp)
end
def edgeL (g : GatT) (x : Int) : Edge3 := (g.f0.toNat, g.f1.toNat, x)
def edgesL (gs : List GatT) (l : List Int) : List Edge3 := gs.zipWith edgeL l
def nvr : Int := 1073741824
def farM (R : Nat) (gs : List GatT) (l : List Int) : Nat → Nat → Int := fwM R (gatesM (edgesL gs l) (startM nvr)) R
structure GatesR (R : Int) (gs : List GatT) : Prop where
 len : gs.length ≤ 6
 ok : ∀ g ∈ gs, (0 ≤ g.f0 ∧ g.f0 < R) ∧ (0 ≤ g.f1 ∧ g.f1 < R) ∧ g.f0 ≠ g.f1 ∧ 0 ≤ g.f2.f0 ∧ g.f2.f0 ≤ g.f2.f1 ∧ g.f2.f1 ≤ 60 ∧ g.f2.f1 ≤ g.f2.f0 + 2
theorem GatesR.gates {R : Int} {gs : List GatT} (h : GatesR R gs) : GatesOK gs := ⟨h.len, fun g hg => ⟨(h.ok g hg).2.2.2.1, (h.ok g hg).2.2.2.2.1, (h.ok g hg).2.2.2.2.2.1⟩⟩
theorem gateF_ok {R : Int} {g : GatT} (h : gateF R g = true) : (0 ≤ g.f0 ∧ g.f0 < R) ∧ (0 ≤ g.f1 ∧ g.f1 < R) ∧ g.f0 ≠ g.f1 ∧ 0 ≤ g.f2.f0 ∧ g.f2.f0 ≤ g.f2.f1 ∧ g.f2.f1 ≤ 60 ∧ g.f2.f1 ≤ g.f2.f0 + 2 := by
 simp only [gateF, inF, Bool.and_eq_true, decide_eq_true_eq, Bool.not_eq_true', decide_eq_false_iff_not] at h
 omega
theorem okD_pos {gs : List GatT} {l : List Int} (h : okD gs l) (hg : ∀ g ∈ gs, 0 ≤ g.f2.f0) : ∀ e ∈ edgesL gs l, 0 ≤ e.2.2 := by
 induction gs generalizing l with
 | nil => intro e he; simp [edgesL] at he
 | cons g gs ih =>
  cases l with
  | nil => exact h.elim
  | cons x l =>
   intro e he
   simp only [edgesL, List.zipWith_cons_cons, List.mem_cons] at he
   rcases he with rfl | he
   ·have := hg g List.mem_cons_self; have := h.1; simp [edgeL]; omega
   ·exact ih h.2 (fun q hq => hg q (List.mem_cons_of_mem _ hq)) e he
theorem edges_from {gs : List GatT} {l : List Int} : ∀ e ∈ edgesL gs l, ∃ g ∈ gs, e.1 = g.f0.toNat ∧ e.2.1 = g.f1.toNat := by
 induction gs generalizing l with
 | nil => intro e he; simp [edgesL] at he
 | cons g gs ih =>
  cases l with
  | nil => intro e he; simp [edgesL] at he
  | cons x l =>
   intro e he
   simp only [edgesL, List.zipWith_cons_cons, List.mem_cons] at he
   rcases he with rfl | he
   ·exact ⟨g, List.mem_cons_self, rfl, rfl⟩
   ·obtain ⟨q, h1, h2⟩ := ih e he
    exact ⟨q, List.mem_cons_of_mem _ h1, h2⟩
theorem edges_ne {R : Int} {gs : List GatT} (h : GatesR R gs) (l : List Int) : ∀ e ∈ edgesL gs l, e.1 ≠ e.2.1 := fun e he => by
 obtain ⟨g, hg, h1, h2⟩ := edges_from e he
 have := h.ok g hg
 rw [h1, h2]
 omega
theorem start_sym (N : Int) : ∀ a b, startM N a b = startM N b a := fun a b => by
 unfold startM
 by_cases e : a = b
 ·rw [if_pos e, if_pos e.symm]
 ·rw [if_neg e, if_neg (fun q => e q.symm)]
theorem gates_sound {R : Int} {gs : List GatT} {l : List Int} (h : GatesR R gs) (hl : okD gs l) : SoundM (edgesL gs l) nvr (gatesM (edgesL gs l) (startM nvr)) :=
 (gatesM_ok (okD_pos hl fun g hg => (h.ok g hg).2.2.2.1) (edges_ne h l) _ _ (fun _ q => q) (SoundM.start (by decide)) (start_sym nvr)).1
theorem edgesL_take {gs : List GatT} {l : List Int} (hl : l.length = gs.length) {k : Nat} (hk : k < gs.length) : (edgesL gs l).take (k + 1) = (edgesL gs l).take k ++ [edgeL (gs.getD k zGat) (l.getD k 0)] := by
 have h1 : (edgesL gs l)[k]? = some (edgeL (gs.getD k zGat) (l.getD k 0)) := by
  simp [edgesL, List.getElem?_zipWith, List.getD_eq_getElem?_getD, List.getElem?_eq_getElem hk, List.getElem?_eq_getElem (show k < l.length by omega)]
 rw [List.take_add_one, h1]
 rfl
theorem gatesM_take {gs : List GatT} {l : List Int} (hl : l.length = gs.length) {k : Nat} (hk : k < gs.length) (F : Nat → Nat → Int) : gatesM ((edgesL gs l).take (k + 1)) F = gateM (gatesM ((edgesL gs l).take k) F) (edgeL (gs.getD k zGat) (l.getD k 0)) := by
 rw [edgesL_take hl hk, gatesM, List.foldl_append]
 rfl
theorem edgesL_len {gs : List GatT} {l : List Int} (hl : l.length = gs.length) : (edgesL gs l).length = gs.length := by simp [edgesL, hl]
def iniM (a b : Nat) : Nat → Nat → Int := fun x y => if x < a ∨ (x = a ∧ y < b) then startM nvr x y else 0
theorem iniM_next (a b : Nat) : iniM a (b + 1) = updM (iniM a b) a b (startM nvr a b) := by
 funext x y
 unfold iniM updM
 by_cases h : x = a ∧ y = b
 ·rw [if_pos h, h.1, h.2, if_pos (by omega)]
 ·rw [if_neg h]
  show _ = if x < a ∨ (x = a ∧ y < b) then startM nvr x y else 0
  by_cases h2 : x < a ∨ (x = a ∧ y < b)
  ·rw [if_pos h2, if_pos (by omega)]
  ·rw [if_neg h2, if_neg (by omega)]
theorem updM_twice (F : Nat → Nat → Int) (a b : Nat) (u v : Int) : updM (updM F a b u) a b v = updM F a b v := by
 funext x y
 unfold updM
 split <;> rfl
theorem iniM_row (a : Nat) : matV (iniM a 6) = matV (iniM (a + 1) 0) := matV_congr fun x y hx hy => by
 unfold iniM
 by_cases h : x ≤ a
 ·rw [if_pos (by omega), if_pos (by omega)]
 ·rw [if_neg (by omega), if_neg (by omega)]
theorem iniM_end : matV (iniM 6 0) = matV (startM nvr) := matV_congr fun x y hx hy => by
 unfold iniM
 rw [if_pos (by omega)]
theorem iniM_zero : matV (iniM 0 0) = List.replicate 36 (.int .i64 0) := by
 rw [← matV_zero]
 exact matV_congr fun x y hx hy => by
  unfold iniM
  rw [if_neg (by omega)]
theorem upL_len : ∀ (n : Nat) (lo : Int), (upL lo n).length = n
 | 0, _ => rfl
 | n + 1, lo => by simp [upL, upL_len n (lo + 1)]
theorem allD_len : ∀ {gs : List GatT}, (∀ g ∈ gs, g.f2.f1 ≤ g.f2.f0 + 2) → (allD gs).length ≤ 3 ^ gs.length
 | [], _ => by simp [allD]
 | g :: gs, h => by
  have ih := allD_len (gs := gs) fun q hq => h q (List.mem_cons_of_mem _ hq)
  have hg := h g List.mem_cons_self
  have key : ∀ (us : List Int), (us.flatMap fun x => (allD gs).map (x :: ·)).length = us.length * (allD gs).length := by
   intro us
   induction us with
   | nil => simp
   | cons u us ih => simp [List.flatMap_cons, ih, Nat.add_mul, Nat.add_comm]
  rw [allD, key, upL_len, List.length_cons, Nat.pow_succ]
  have h3 : (g.f2.f1 - g.f2.f0 + 1).toNat ≤ 3 := by omega
  calc (g.f2.f1 - g.f2.f0 + 1).toNat * (allD gs).length ≤ 3 * 3 ^ gs.length := Nat.mul_le_mul h3 ih
   _ = 3 ^ gs.length * 3 := Nat.mul_comm _ _
theorem allD_few {R : Int} {gs : List GatT} (h : GatesR R gs) : (allD gs).length ≤ 729 :=
 Nat.le_trans (allD_len fun g hg => (h.ok g hg).2.2.2.2.2.2) (Nat.le_trans (Nat.pow_le_pow_right (by omega) h.len) (by decide))
theorem allD_ok : ∀ {gs : List GatT}, ∀ l ∈ allD gs, okD gs l
 | [], l, h => by
  simp only [allD, List.mem_singleton] at h
  subst h
  trivial
 | g :: gs, l, h => by
  simp only [allD, List.mem_flatMap, List.mem_map] at h
  obtain ⟨x, hx, r, hr, rfl⟩ := h
  refine ⟨?_, allD_ok r hr⟩
  have key : ∀ (n : Nat) (lo x : Int), x ∈ upL lo n → lo ≤ x ∧ x < lo + n := by
   intro n
   induction n with
   | zero => intro lo x h; simp [upL] at h
   | succ n ih =>
    intro lo x h
    rcases List.mem_cons.1 h with rfl | h
    ·omega
    ·have := ih _ _ h; omega
  have := key _ _ _ hx
  omega
theorem allD_ne {gs : List GatT} (h : ∀ g ∈ gs, g.f2.f0 ≤ g.f2.f1) : allD gs ≠ [] := by
 rw [← tailD_least h, tailD_step h (least_ok h)]
 simp
inductive GS where
 | s0 (q : Option Nat)
 | s1 (q : Option Nat) (b : Nat)
 | s2 (q : Option Nat) (b : Nat) (pf : Nat × Nat)
 | s3 (q : Nat) (b : Nat) (pf pw : Nat × Nat)
 | s4 (q : Nat) (b : Nat) (pf pw : Nat × Nat)
 | s5 (q : Nat) (b : Nat) (pf pw : Nat × Nat)
def GS.q : GS → Nat
 | .s0 q | .s1 q _ | .s2 q _ _ => q.getD 0
 | .s3 q _ _ _ | .s4 q _ _ _ | .s5 q _ _ _ => q
def GS.b : GS → Nat
 | .s0 _ => 0
 | .s1 _ b | .s2 _ b _ => b
 | .s3 _ b _ _ | .s4 _ b _ _ | .s5 _ b _ _ => b
def GS.pf : GS → Nat × Nat
 | .s0 _ | .s1 _ _ => (0, 0)
 | .s2 _ _ p => p
 | .s3 _ _ p _ | .s4 _ _ p _ | .s5 _ _ p _ => p
def GS.pw : GS → Nat × Nat
 | .s0 _ | .s1 _ _ | .s2 _ _ _ => (0, 0)
 | .s3 _ _ _ p | .s4 _ _ _ p | .s5 _ _ _ p => p
def okS : List Nat → GS → Prop
 | L, .s0 q => 7 ∉ L ∧ 8 ∉ L ∧ 15 ∉ L ∧ 18 ∉ L ∧ 21 ∉ L ∧ (14 ∈ L ↔ q.isSome = true)
 | L, .s1 q _ => 7 ∈ L ∧ 8 ∉ L ∧ 15 ∉ L ∧ 18 ∉ L ∧ 21 ∉ L ∧ (14 ∈ L ↔ q.isSome = true)
 | L, .s2 q _ _ => 7 ∈ L ∧ 8 ∈ L ∧ 15 ∉ L ∧ 18 ∉ L ∧ 21 ∉ L ∧ (14 ∈ L ↔ q.isSome = true)
 | L, .s3 _ _ _ _ => 7 ∈ L ∧ 8 ∈ L ∧ 15 ∈ L ∧ 18 ∉ L ∧ 21 ∉ L ∧ 14 ∈ L
 | L, .s4 _ _ _ _ => (∀ j, j ∈ [5, 7, 8, 12, 14, 15, 18] → j ∈ L) ∧ 21 ∉ L
 | L, .s5 _ _ _ _ => (∀ j, j ∈ [5, 7, 8, 12, 14, 15, 18, 21] → j ∈ L) ∧ True
theorem mem_ne {i m : Nat} {L : List Nat} (h : m ≠ i) : m ∈ i :: L ↔ m ∈ L := ⟨fun q => (List.mem_cons.1 q).resolve_left h, List.mem_cons_of_mem _⟩
theorem okS_pure {L : List Nat} {g : GS} {i : Nat} (hi : 7 ≠ i ∧ 8 ≠ i ∧ 15 ≠ i ∧ 18 ≠ i ∧ 21 ≠ i ∧ 14 ≠ i) (h : okS L g) : okS (i :: L) g := by
 obtain ⟨h1, h2, h3, h4, h5, h6⟩ := hi
 cases g with
 | s0 q => simp only [okS] at h ⊢; rw [mem_ne h1, mem_ne h2, mem_ne h3, mem_ne h4, mem_ne h5, mem_ne h6]; exact h
 | s1 q b => simp only [okS] at h ⊢; rw [mem_ne h1, mem_ne h2, mem_ne h3, mem_ne h4, mem_ne h5, mem_ne h6]; exact h
 | s2 q b pf => simp only [okS] at h ⊢; rw [mem_ne h1, mem_ne h2, mem_ne h3, mem_ne h4, mem_ne h5, mem_ne h6]; exact h
 | s3 q b pf pw => simp only [okS] at h ⊢; rw [mem_ne h1, mem_ne h2, mem_ne h3, mem_ne h4, mem_ne h5, mem_ne h6]; exact h
 | s4 q b pf pw => simp only [okS] at h ⊢; rw [mem_ne h5]; exact ⟨fun j hj => List.mem_cons_of_mem _ (h.1 j hj), h.2⟩
 | s5 q b pf pw => exact ⟨fun j hj => List.mem_cons_of_mem _ (h.1 j hj), trivial⟩
def siteV (sv : List Value) (vf vw : Value) : List Value := sv ++ [vf, vw]
def qP (te : TypeId) (ev : Value) : Option Nat → Hp
 | none => []
 | some b => [(b, true, cel [ev] te)]
def vsS (bs : Nat) (v0f v0w ev mv : Value) (k : Nat) (g : GS) : List Value :=
 let p : Value := .pointer (some ⟨bs, 0, none⟩)
 [p, p, p, p, .pointer (some ⟨bs, 0 + 4, none⟩), v0f, mv, .slice (some ⟨g.b, 0, none⟩) 1 1, valR (some g.pf) (k + 1), p, p, .pointer (some ⟨bs, 0 + 5, none⟩), v0w, ev, .slice (some ⟨g.q, 0, none⟩) 1 1, valR (some g.pw) (k + 1), p, .pointer (some ⟨bs, 0 + 4, none⟩), undef, p, .pointer (some ⟨bs, 0 + 5, none⟩), undef]
theorem vsS_same {bs : Nat} {v0f v0w ev mv : Value} {k : Nat} {L : List Nat} {g g' : GS} (h7 : 7 ∈ L → g'.b = g.b) (h8 : 8 ∈ L → g'.pf = g.pf) (h14 : 14 ∈ L → g'.q = g.q) (h15 : 15 ∈ L → g'.pw = g.pw) : ∀ j ∈ L, nth j (vsS bs v0f v0w ev mv k g') = nth j (vsS bs v0f v0w ev mv k g) := by
 intro j hj
 rcases j with _ | _ | _ | _ | _ | _ | _ | _ | _ | _ | _ | _ | _ | _ | _ | _ | _ | _ | _ | _ | _ | _ | j
 all_goals first
  | rfl
  | (simp only [vsS, nth, h7 hj]; done)
  | (simp only [vsS, nth, h8 hj]; done)
  | (simp only [vsS, nth, h14 hj]; done)
  | (simp only [vsS, nth, h15 hj]; done)
def hS (bM b5 bs : Nat) (sv : List Value) (v0f v0w ev : Value) (rf rw_ : RowR) (k : Nat) (fs ws M : List Value) (ζ : Hp) : GS → Hp :=
 let core := fun (vf vw : Value) => ((bM, true, cel M 102) :: (b5, true, cel [.pointer (some ⟨bs, 0, none⟩)] 62) :: (bs, true, cel (siteV sv vf vw) 83) :: ζ : Hp)
 fun g => match g with
 | .s0 q => qP 34 ev q ++ (hpR 102 36 rf k fs ++ (hpR 34 1 rw_ k ws ++ core v0f v0w))
 | .s1 q b => (b, true, cel M 102) :: (qP 34 ev q ++ (hpR 102 36 rf k fs ++ (hpR 34 1 rw_ k ws ++ core v0f v0w)))
 | .s2 q _ pf => qP 34 ev q ++ (hpR 34 1 rw_ k ws ++ (hpR 102 36 (some pf) (k + 1) (fs ++ M) ++ core v0f v0w))
 | .s3 _ _ pf pw => hpR 34 1 (some pw) (k + 1) (ws ++ [ev]) ++ (hpR 102 36 (some pf) (k + 1) (fs ++ M) ++ core v0f v0w)
 | .s4 _ _ pf pw => hpR 34 1 (some pw) (k + 1) (ws ++ [ev]) ++ (hpR 102 36 (some pf) (k + 1) (fs ++ M) ++ core (valR (some pf) (k + 1)) v0w)
 | .s5 _ _ pf pw => hpR 34 1 (some pw) (k + 1) (ws ++ [ev]) ++ (hpR 102 36 (some pf) (k + 1) (fs ++ M) ++ core (valR (some pf) (k + 1)) (valR (some pw) (k + 1)))
theorem fill_mat (F : Nat → Nat → Int) : fillL ((List.range 1).map fun i => (i * 36, 36)) ((List.range (1 * 36)).map fun i => (Value.agg (List.replicate 36 (Value.int .i64 0)).toArray).cells[i % (Value.agg (List.replicate 36 (Value.int .i64 0)).toArray).cells.size]!) [(0, .agg (matV F).toArray)] = some (matV F) := rfl
end Go.Proofs.YtommeljlfkmpjaaDoor
