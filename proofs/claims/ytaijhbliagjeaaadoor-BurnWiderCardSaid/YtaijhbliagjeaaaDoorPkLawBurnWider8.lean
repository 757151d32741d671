/- SX: a drawn region whose values the steps themselves find. No program in sight. / SX: append of a whole row. No program in sight. / SX: a drawn region some of whose operations make blocks or write: their values and blocks are a ghost that the steps choose. No program in sight. / SX: a drawn region whose operations that make blocks come one after the other (each waits for the one before): the rest may come at any time. No program in sight. / SX: a drawn region that writes slots which it also reads: the old values may be read by what the writer waits for. No program in sight. / SX: rows of several cells an element, of the call's own: read, written, copied. No program in sight. / SX: shifts and single bits; rows of whatever cells, of a call's results. No program in sight. / SX: delete out of a map with whole-number keys. No program in sight. / SX: a range over an iterator of whole numbers that yields one of several lists (as a map's keys, in whatever order). No program in sight. / SX: a range over a map with whole-number keys. No program in sight. / SX: how many a set holds. No program in sight. / SX: nil checks, places in arrays, look-ups that tell whether there is one, blocks that a call has laid, parts of memory that a call has changed. No program in sight. / SX: remainders and quotients of what is not negative; truths that are compared. No program in sight. / SX: slices of several elements, written out. No program in sight. / What SX asks of this seat's types (written by wip/tools/gen_tys.py). / The kinds of this seat's values (printed by the kit's kinds.py). -/
import Derived.Test.YtaijhbliagjeaaaDoorPkLawBurnWider7
import Derived.Deep.Upon
import Derived.Test.YtaijhbliagjeaaaDoorPkLawBurnWider1
import Derived.Laws.Small
import Derived.Test.YtaijhbliagjeaaaDoorProg
import Derived.KernelRfl
namespace Go.Proofs.YtaijhbliagjeaaaDoor
open Go.RowKit
set_option linter.unusedVariables false
section
variable {P : Program} {ro : Option Nat} {n N : Nat} {ds : List Deferred} {w0 : World} {X : Nat → Prop} {Q : Exit → Act → World → Prop} {σ : Slots} {η : Hp}
theorem DrawOps.nil {ops : List Oper} {vs : List Value} : DrawOps P ro n N ds w0 X ops vs σ η [] [] := trivial
theorem DrawOps.cons {ops : List Oper} {vs : List Value} {o : Oper} {r : List Oper} {v : Value} {vr : List Value} (h : ∀ τ, XO P ro n N ds w0 X (OnePost N ds w0 X η (putS o.dst v (flatS ops vs (depOf o) σ ++ τ))) ops (flatS ops vs (depOf o) σ ++ τ) η [o])
    (t : DrawOps P ro n N ds w0 X ops vs σ η r vr) : DrawOps P ro n N ds w0 X ops vs σ η (o :: r) (v :: vr) := ⟨h, t⟩
theorem xo_fin {ops : List Oper} {d : Option Tmp} {u v : Value} (e : u = v) : XO P ro n N ds w0 X (OnePost N ds w0 X η (putS d v σ)) ops (putS d u σ) η [] := by
  subst e
  exact xo_nil fun a w ha hw => ⟨ha, hw⟩
end
theorem RO.fld {w : World} {X : Nat → Prop} {p : Addr} {cs : List Value} {j : Nat} {v : Value} (h : RO w X p cs) (hj : cs[j]? = some v) : RO w X (p.add j) [v] := fun i u hi => by
  cases i with
  | zero => simp at hi; subst hi; rw [Addr.add_zero']; exact h j _ hj
  | succ i => simp at hi
end Go.Proofs.YtaijhbliagjeaaaDoor
namespace Go.Proofs.YtaijhbliagjeaaaDoor
open Go.RowKit
set_option linter.unusedVariables false
set_option linter.unusedSimpArgs false
end Go.Proofs.YtaijhbliagjeaaaDoor
namespace Go.Proofs.YtaijhbliagjeaaaDoor
open Go.RowKit
set_option linter.unusedVariables false
set_option linter.unusedSimpArgs false
def PostK (K : Act → World → Prop) : Exit → Act → World → Prop
  | .normal, a, w => K a w
  | _, _, _ => False
theorem wpIn_swapK {F : Fence} {n : Nat} {P : Program} {o : Oper} {a : Act} {w : World} {K K' : Act → World → Prop} {Q : Exit → Act → World → Prop}
    (h : o.wpIn F n P a w K (PostK K')) : o.wpIn F n P a w K Q := by
  unfold Oper.wpIn at *
  refine ⟨h.1, ?_⟩
  have hh := h.2
  generalize (o.semAt F.round a.eval).run P w = r at *
  cases r with
  | ok x w' =>
    cases x <;> simp only [Oper.uponIn] at hh ⊢ <;>
      first
        | exact hh
        | exact ⟨hh.1, CallsIn.mono hh.2 (fun e w'' he => by
            cases e with
            | returned v => exact he
            | panicked c => exact he.elim
            | outgrown => obtain ⟨_, _, h3⟩ := he; exact h3.elim)⟩
        | exact ⟨hh.1, RoundIn.mono hh.2 (fun e w'' he => by
            cases e with
            | returned v => exact he
            | panicked c => exact he.elim
            | outgrown => obtain ⟨_, _, h3⟩ := he; exact h3.elim)⟩
  | halt x w' => cases x <;> simp only [Oper.uponIn] at hh ⊢ <;> first | exact hh | exact hh.elim
section
variable {P : Program} {ro : Option Nat} {n N : Nat} {ds : List Deferred} {w0 : World} {X : Nat → Prop} {Q : Exit → Act → World → Prop} {σ : Slots} {η : Hp}
def GPost {γ : Type} (N : Nat) (ds : List Deferred) (w0 : World) (X : Nat → Prop) (ops : List Oper) (vs : γ → List Value) (H : γ → Hp) (Ok : List Nat → γ → Prop) (i : Nat) (L : List Nat) (g : γ) (d : Option Tmp) (σ : Slots) : Act → World → Prop := fun a w =>
  ∃ g', Ok (i :: L) g' ∧ (∀ j ∈ L, nth j (vs g') = nth j (vs g)) ∧ (∃ v, nth i (vs g') = some v ∧ SOK N ds (putS d v σ) a) ∧ WOK w0 X (H g') w
def DrawG {γ : Type} (P : Program) (ro : Option Nat) (n N : Nat) (ds : List Deferred) (w0 : World) (X : Nat → Prop) (ops : List Oper) (vs : γ → List Value) (H : γ → Hp) (Ok : List Nat → γ → Prop) (σ : Slots) : Nat → List Oper → Prop
  | _, [] => True
  | i, o :: r => (∀ L g, Ok L g → i ∉ L → (∀ j ∈ depOf o, j ∈ L) → ∀ τ, XO P ro n N ds w0 X (PostK (GPost N ds w0 X ops vs H Ok i L g o.dst (flatS ops (vs g) (depOf o) σ ++ τ))) ops (flatS ops (vs g) (depOf o) σ ++ τ) (H g) [o]) ∧ DrawG P ro n N ds w0 X ops vs H Ok σ (i + 1) r
theorem drawG_get {γ : Type} {ops : List Oper} {vs : γ → List Value} {H : γ → Hp} {Ok : List Nat → γ → Prop} : ∀ (l : List Oper) (k i : Nat) (o : Oper), DrawG P ro n N ds w0 X ops vs H Ok σ k l → l[i]? = some o →
    ∀ L g, Ok L g → k + i ∉ L → (∀ j ∈ depOf o, j ∈ L) → ∀ τ, XO P ro n N ds w0 X (PostK (GPost N ds w0 X ops vs H Ok (k + i) L g o.dst (flatS ops (vs g) (depOf o) σ ++ τ))) ops (flatS ops (vs g) (depOf o) σ ++ τ) (H g) [o]
  | [], k, i, o, _, h => by simp at h
  | x :: r, k, 0, o, h, h1 => by
    simp at h1
    subst h1
    exact h.1
  | x :: r, k, i + 1, o, h, h1 => by
    have := drawG_get r (k + 1) i o h.2 (by simpa using h1)
    rw [show k + 1 + i = k + (i + 1) by omega] at this
    exact this
theorem DrawG.nil {γ : Type} {ops : List Oper} {vs : γ → List Value} {H : γ → Hp} {Ok : List Nat → γ → Prop} {i : Nat} : DrawG P ro n N ds w0 X ops vs H Ok σ i [] := trivial
theorem DrawG.cons {γ : Type} {ops : List Oper} {vs : γ → List Value} {H : γ → Hp} {Ok : List Nat → γ → Prop} {i : Nat} {o : Oper} {r : List Oper} (h : ∀ L g, Ok L g → i ∉ L → (∀ j ∈ depOf o, j ∈ L) → ∀ τ, XO P ro n N ds w0 X (PostK (GPost N ds w0 X ops vs H Ok i L g o.dst (flatS ops (vs g) (depOf o) σ ++ τ))) ops (flatS ops (vs g) (depOf o) σ ++ τ) (H g) [o])
    (t : DrawG P ro n N ds w0 X ops vs H Ok σ (i + 1) r) : DrawG P ro n N ds w0 X ops vs H Ok σ i (o :: r) := ⟨h, t⟩
/-- an operation that makes and writes nothing -/
theorem DrawG.pure {γ : Type} {ops : List Oper} {vs : γ → List Value} {H : γ → Hp} {Ok : List Nat → γ → Prop} {i : Nat} {o : Oper} {r : List Oper} (hk : ∀ L g, Ok L g → Ok (i :: L) g)
    (h : ∀ L g, Ok L g → i ∉ L → (∀ j ∈ depOf o, j ∈ L) → ∀ τ, ∃ v, nth i (vs g) = some v ∧ XO P ro n N ds w0 X (OnePost N ds w0 X (H g) (putS o.dst v (flatS ops (vs g) (depOf o) σ ++ τ))) ops (flatS ops (vs g) (depOf o) σ ++ τ) (H g) [o])
    (t : DrawG P ro n N ds w0 X ops vs H Ok σ (i + 1) r) : DrawG P ro n N ds w0 X ops vs H Ok σ i (o :: r) := by
  refine ⟨fun L g hg hi hd τ => ?_, t⟩
  obtain ⟨v, hv, hx⟩ := h L g hg hi hd τ
  intro a w ha hw
  have hr := hx a w ha hw
  unfold wpListIn at hr ⊢
  split at hr
  · rename_i hw1
    rw [if_pos hw1]
    exact wpIn_swap (Oper.wpIn_mono (fun a' w' h' => show wpListIn _ _ _ _ _ [] a' w' from ⟨g, hk L g hg, fun _ _ => rfl, ⟨v, hv, h'.1⟩, h'.2⟩) hr)
  · rename_i hw1
    rw [if_neg hw1]
    exact ⟨fun _ _ => trivial, ⟨g, hk L g hg, fun _ _ => rfl, ⟨v, hv, hr.2.1⟩, hr.2.2⟩⟩
theorem xc_drawG {γ : Type} {id : Nat} {ops : List Oper} (vs : γ → List Value) (H : γ → Hp) (Ok : List Nat → γ → Prop) (g0 : γ) (hOk0 : Ok [] g0) (hH0 : H g0 = η) (hlv : ∀ g, (vs g).length = ops.length) (hmix : P.follows .mixedOrders = true) (hbind : true = true) (hdeps : depsB 0 ops = true) (hdist : distB (dstsOf_ ops) = true) (hfresh : freshB σ (dstsOf_ ops) = true)
    (hop : DrawG P ro n N ds w0 X ops vs H Ok σ 0 ops) (hQ : ∀ L g, Ok L g → (∀ j, j < ops.length → j ∈ L) → XQ N ds w0 X Q .normal (flatS ops (vs g) (List.range ops.length) σ) (H g)) : XC P ro n N ds w0 X Q σ η (.region id ops.toArray true) := by
  have hdis := fun i j k => distB_get ops i j k hdist
  have hfr : ∀ j d, nthD j ops = some d → slot d σ = none := fun j d h => by
    rw [nthD_eq] at h
    obtain ⟨o, ho, ho2⟩ := Option.bind_eq_some_iff.1 h
    exact freshB_get _ d hfresh (List.mem_filterMap.2 ⟨o, List.mem_of_getElem? ho, ho2⟩)
  have hnot : ∀ k u, slot k σ = some u → ∀ j, nthD j ops ≠ some k := fun k u h j e => by rw [hfr j k e] at h; cases h
  -- those of some are those of more
  have hmore : ∀ (g : γ) (L M : List Nat), (∀ j ∈ L, j ∈ M) → ∀ k u, slot k (flatS ops (vs g) L σ) = some u → slot k (flatS ops (vs g) M σ) = some u := by
    intro g L M h k u hk
    rcases flat_a L hk with ⟨j, hj, h1, h2⟩ | h1
    · exact flat_b hdis h1 h2 M (h j hj)
    · rw [flat_c (hnot k u h1) M]; exact h1
  intro a w ha hw
  refine wpIn_region_any hmix ?_
  have key : ∀ (fuel : Nat) (L : List Nat) (listed : Array Bool) (a : Act) (w : World), listed.size = ops.length → (∀ j, listed.getD j false = true ↔ j ∈ L) → (∀ j ∈ L, j < ops.length) → ((List.range ops.length).filter fun j => !listed.getD j false).length ≤ fuel → ∀ g, Ok L g → SOK N ds (flatS ops (vs g) L σ) a → WOK w0 X (H g) w →
      wpAnyIn (wideR ro) n P .any ops.toArray Q fuel listed a w := by
    intro fuel
    induction fuel with
    | zero =>
      intro L listed a w hsz hL hLb hcnt g hOk ha hw
      have hall : ∀ j, j < ops.length → j ∈ L := by
        intro j hj
        have h0 := List.length_eq_zero_iff.1 (Nat.le_zero.1 hcnt)
        rw [List.filter_eq_nil_iff] at h0
        have := h0 j (List.mem_range.2 hj)
        exact (hL j).1 (by simpa using this)
      refine ⟨?_, hQ L g hOk hall a w (ha.le (hmore g _ _ (fun j hj => hall j (List.mem_range.1 hj)))) hw⟩
      apply List.eq_nil_iff_forall_not_mem.2
      intro j hj
      obtain ⟨h1, o, h2, _⟩ := mem_ready.1 hj
      have hlt : j < ops.length := by have := (Array.getElem?_eq_some_iff.1 h2).1; simpa using this
      have h3 := (hL j).2 (hall j hlt)
      rw [Array.getD_eq_getD_getElem?] at h1 h3
      rw [Array.getElem?_eq_getElem (by rw [hsz]; exact hlt)] at h1 h3
      simp at h1 h3
      rw [h1] at h3
      cases h3
    | succ fuel ih =>
      intro L listed a w hsz hL hLb hcnt g hOk ha hw
      refine ⟨fun hnil => ?_, fun i hi => ?_⟩
      · -- nothing is ready: all are listed
        have hall : ∀ k j, j ≤ k → j < ops.length → j ∈ L := by
          intro k
          induction k with
          | zero =>
            intro j hj hlt
            by_cases hm : j ∈ L
            · exact hm
            · exfalso
              have : j ∈ Region.ready .any ops.toArray listed := by
                refine mem_ready.2 ⟨?_, ops[j], by simp [List.getElem?_eq_getElem hlt], ?_⟩
                · have h3 : listed.getD j false ≠ true := fun q => hm ((hL j).1 q)
                  rw [Array.getD_eq_getD_getElem?, Array.getElem?_eq_getElem (by rw [hsz]; exact hlt)] at h3 ⊢
                  simpa using h3
                · intro e he hbd
                  have h4 := depsB_get ops 0 j ops[j] hdeps (List.getElem?_eq_getElem hlt) e.on (List.mem_map.2 ⟨e, List.mem_filter.2 ⟨by simpa using he, hbd⟩, rfl⟩)
                  omega
              rw [hnil] at this
              cases this
          | succ k ihk =>
            intro j hj hlt
            by_cases hjk : j ≤ k
            · exact ihk j hjk hlt
            by_cases hm : j ∈ L
            · exact hm
            · exfalso
              have : j ∈ Region.ready .any ops.toArray listed := by
                refine mem_ready.2 ⟨?_, ops[j], by simp [List.getElem?_eq_getElem hlt], ?_⟩
                · have h3 : listed.getD j false ≠ true := fun q => hm ((hL j).1 q)
                  rw [Array.getD_eq_getD_getElem?, Array.getElem?_eq_getElem (by rw [hsz]; exact hlt)] at h3 ⊢
                  simpa using h3
                · intro e he hbd
                  have h4 := depsB_get ops 0 j ops[j] hdeps (List.getElem?_eq_getElem hlt) e.on (List.mem_map.2 ⟨e, List.mem_filter.2 ⟨by simpa using he, hbd⟩, rfl⟩)
                  exact (hL e.on).2 (ihk e.on (by omega) (by omega))
              rw [hnil] at this
              cases this
        exact hQ L g hOk (fun j hj => hall j j (Nat.le_refl _) hj) a w (ha.le (hmore g _ _ (fun j hj => hall j j (Nat.le_refl _) (List.mem_range.1 hj)))) hw
      · obtain ⟨h1, o, h2, h3⟩ := mem_ready.1 hi
        have hlt : i < ops.length := by have := (Array.getElem?_eq_some_iff.1 h2).1; simpa using this
        have ho : ops[i]? = some o := by simpa using h2
        have hnl : ¬ i ∈ L := fun q => by
          have h4 := (hL i).2 q
          rw [Array.getD_eq_getD_getElem?, Array.getElem?_eq_getElem (by rw [hsz]; exact hlt)] at h1 h4
          simp at h1 h4
          rw [h1] at h4
          cases h4
        have hdL : ∀ j ∈ depOf o, j ∈ L := by
          intro j hj
          obtain ⟨e, he, rfl⟩ := List.mem_map.1 hj
          obtain ⟨he, hb⟩ := List.mem_filter.1 he
          exact (hL e.on).1 (h3 e (by simpa using he) hb)
        have hcons := hmore g (depOf o) L hdL
        have hs : SOK N ds (flatS ops (vs g) (depOf o) σ ++ flatS ops (vs g) L σ) a := ha.le fun k u hk => by
          rw [slot_app] at hk
          cases hd : slot k (flatS ops (vs g) (depOf o) σ) with
          | some x => rw [hd] at hk; cases hk; exact hcons k _ hd
          | none => rw [hd] at hk; exact hk
        have hrun := drawG_get ops 0 i o hop ho L g hOk (by rwa [Nat.zero_add]) hdL (flatS ops (vs g) L σ) a w hs hw
        rw [Nat.zero_add] at hrun
        have hnext : ∀ a' w', GPost N ds w0 X ops vs H Ok i L g o.dst (flatS ops (vs g) (depOf o) σ ++ flatS ops (vs g) L σ) a' w' → wpAnyIn (wideR ro) n P .any ops.toArray Q fuel (listed.setIfInBounds i true) a' w' := by
          rintro a' w' ⟨g', hOk', hsame, ⟨v, hv, ha'⟩, hw'⟩
          have hflat : flatS ops (vs g') L σ = flatS ops (vs g) L σ := by
            clear hOk hOk' ih hs hrun ha hw ha' hw' hL hLb hnl hdL hcons hcnt
            induction L with
            | nil => rfl
            | cons j L ihL =>
              unfold flatS
              rw [ihL (fun j hj => hsame j (List.mem_cons_of_mem _ hj))]
              congr 1
              unfold dstv
              rw [hsame j (List.mem_cons_self ..)]
          refine ih (i :: L) _ a' w' (by simp [hsz]) ?_ ?_ ?_ g' hOk' (ha'.le ?_) hw'
          · intro j
            rw [Array.getD_eq_getD_getElem?]
            by_cases e : i = j
            · subst e
              rw [Array.getElem?_setIfInBounds_self, if_pos (by rw [hsz]; exact hlt)]
              simp
            · rw [Array.getElem?_setIfInBounds_ne e, ← Array.getD_eq_getD_getElem?, hL j]
              simp [show ¬ j = i from fun q => e q.symm]
          · intro j hj
            rcases List.mem_cons.1 hj with rfl | hj
            · exact hlt
            · exact hLb j hj
          · have : ((List.range ops.length).filter fun j => !(listed.setIfInBounds i true).getD j false).length < ((List.range ops.length).filter fun j => !listed.getD j false).length := by
              refine filter_less (i := i) ?_ (List.mem_range.2 hlt) ?_ ?_
              · intro j hj hq
                by_cases e : i = j
                · subst e
                  rw [Array.getD_eq_getD_getElem?, Array.getElem?_setIfInBounds_self, if_pos (by rw [hsz]; exact hlt)] at hq
                  simp at hq
                · rw [Array.getD_eq_getD_getElem?, Array.getElem?_setIfInBounds_ne e, ← Array.getD_eq_getD_getElem?] at hq
                  exact hq
              · have h4 : listed.getD i false ≠ true := fun q => hnl ((hL i).1 q)
                simpa using h4
              · rw [Array.getD_eq_getD_getElem?, Array.getElem?_setIfInBounds_self, if_pos (by rw [hsz]; exact hlt)]
                simp
            omega
          · intro k u hk
            unfold flatS at hk
            rw [slot_app] at hk
            cases hd : slot k (dstv ops (vs g') i) with
            | some x =>
              rw [hd] at hk
              cases hk
              obtain ⟨h5, h6⟩ := slot_dstv.1 hd
              rw [hv] at h6
              cases h6
              rw [nthD_eq, ho] at h5
              simp only [Option.bind_some] at h5
              rw [h5]
              unfold putS slot
              simp
            | none =>
              rw [hd] at hk
              rw [hflat] at hk
              have h7 : slot k (flatS ops (vs g) (depOf o) σ ++ flatS ops (vs g) L σ) = some u := by
                rw [slot_app]
                cases hd2 : slot k (flatS ops (vs g) (depOf o) σ) with
                | some x => have hk' : slot k (flatS ops (vs g) L σ) = some u := hk; have := hcons k x hd2; rw [hk'] at this; exact this.symm
                | none => exact hk
              cases hdo : o.dst with
              | none => exact h7
              | some d =>
                unfold putS slot
                have hne : Nat.beq d k = false := by
                  cases hb : Nat.beq d k with
                  | false => rfl
                  | true =>
                    exfalso
                    have e := Nat.eq_of_beq_eq_true hb
                    subst e
                    rw [slot_dstv.2 ⟨by rw [nthD_eq, ho]; exact hdo, hv⟩] at hd
                    cases hd
                simp only [hne, cond_false]
                exact h7
        unfold wpOpIn
        simp only [h2]
        unfold wpListIn at hrun
        split at hrun
        · rename_i hw1
          rw [if_pos hw1]
          exact wpIn_swapK (Oper.wpIn_mono (fun a' w' h => hnext a' w' h) hrun)
        · rename_i hw1
          rw [if_neg hw1]
          exact ⟨fun _ _ => trivial, hnext _ _ hrun.2⟩
  refine key _ [] _ a w.drew (by simp) (fun j => ?_) (fun j hj => by cases hj) ?_ g0 hOk0 ha (by rw [hH0]; exact hw.drew)
  · constructor
    · intro h
      rw [Array.getD_eq_getD_getElem?, Array.getElem?_replicate] at h
      split at h <;> simp at h
    · intro h
      cases h
  · have := List.length_filter_le (fun j => !(Array.replicate ops.toArray.size false).getD j false) (List.range ops.length)
    simpa using this
end
end Go.Proofs.YtaijhbliagjeaaaDoor
namespace Go.Proofs.YtaijhbliagjeaaaDoor
open Go.RowKit
set_option linter.unusedVariables false
set_option linter.unusedSimpArgs false
def ovr : Nat → List (Nat × Value) → List Value → List Value
  | _, _, [] => []
  | i, ws, c :: cs => (match look i ws with
    | some v => v
    | none => c) :: ovr (i + 1) ws cs
theorem ovr_len (ws : List (Nat × Value)) : ∀ (cs : List Value) (i : Nat), (ovr i ws cs).length = cs.length
  | [], _ => rfl
  | c :: cs, i => by simp [ovr, ovr_len ws cs (i + 1)]
inductive SameLen : List Value → List Oper → Prop
  | nil : SameLen [] []
  | cons {cs : List Value} {o : Oper} {ops : List Oper} (h : SameLen cs ops) {c : Value} : SameLen (c :: cs) (o :: ops)
theorem SameLen.len {cs : List Value} {ops : List Oper} (h : SameLen cs ops) : cs.length = ops.length := by
  induction h with
  | nil => rfl
  | cons _ ih => simp [ih]
/-- what an operation has made: blocks, a row -/
structure GV where
  b : Nat
  c : Nat
  rr : RowR
/-- nd: how many of the makers E an operation waits for (itself counted); U: what each maker waits for; g: what they have made so far -/
def okN (F : List GV → Prop) (nd E : List Nat) (U : List (List Nat)) (L : List Nat) (g : List GV) : Prop := g.length ≤ E.length ∧ (∀ j ∈ L, nd.getD j 0 ≤ g.length) ∧ (∀ k, k < g.length → E.getD k 0 ∈ L ∧ ∀ j ∈ U.getD k [], j ∈ L) ∧ F g
section
variable {P : Program} {ro : Option Nat} {n N : Nat} {ds : List Deferred} {w0 : World} {X : Nat → Prop} {Q : Exit → Act → World → Prop} {σ : Slots} {η : Hp} {ops : List Oper} {vs : List GV → List Value} {H : List GV → Hp} {nd E : List Nat} {U : List (List Nat)} {F : List GV → Prop}
def EPost (F : List GV → Prop) (N : Nat) (ds : List Deferred) (w0 : World) (X : Nat → Prop) (vs : List GV → List Value) (H : List GV → Hp) (i : Nat) (g : List GV) (d : Option Tmp) (σ : Slots) : Act → World → Prop := fun a w =>
  ∃ x : GV, (∃ v, nth i (vs (g ++ [x])) = some v ∧ SOK N ds (putS d v σ) a) ∧ WOK w0 X (H (g ++ [x])) w ∧ F (g ++ [x])
theorem xo_finE {i : Nat} {g : List GV} {d : Option Tmp} {σ : Slots} {v : Value} (x : GV) (hv : nth i (vs (g ++ [x])) = some v) (hF : F (g ++ [x])) : XO P ro n N ds w0 X (PostK (EPost F N ds w0 X vs H i g d σ)) ops (putS d v σ) (H (g ++ [x])) [] := by
  intro a w ha hw
  exact ⟨x, ⟨v, hv, ha⟩, hw, hF⟩
theorem DrawE.nil {i : Nat} : DrawG P ro n N ds w0 X ops vs H (okN F nd E U) σ i [] := trivial
theorem DrawE.pure {i : Nat} {o : Oper} {r : List Oper} (m u : Nat) (hm : nd.getD i 0 = m) (hu : u = E.length ∨ i ∈ U.getD u []) (hle : ∀ L g, okN F nd E U L g → (∀ j ∈ depOf o, j ∈ L) → m ≤ g.length)
    (hx : ∀ g, m ≤ g.length → g.length ≤ u → F g → ∀ τ, ∃ v, nth i (vs g) = some v ∧ XO P ro n N ds w0 X (OnePost N ds w0 X (H g) (putS o.dst v (flatS ops (vs g) (depOf o) σ ++ τ))) ops (flatS ops (vs g) (depOf o) σ ++ τ) (H g) [o])
    (t : DrawG P ro n N ds w0 X ops vs H (okN F nd E U) σ (i + 1) r) : DrawG P ro n N ds w0 X ops vs H (okN F nd E U) σ i (o :: r) := by
  refine ⟨fun L g hg hi hd τ => ?_, t⟩
  have hmg := hle L g hg hd
  have hok : okN F nd E U (i :: L) g := ⟨hg.1, fun j hj => by
    rcases List.mem_cons.1 hj with rfl | hj
    · rw [hm]; exact hmg
    · exact hg.2.1 j hj, fun k hk => ⟨List.mem_cons_of_mem _ (hg.2.2.1 k hk).1, fun j hj => List.mem_cons_of_mem _ ((hg.2.2.1 k hk).2 j hj)⟩, hg.2.2.2⟩
  have hgu : g.length ≤ u := by
    rcases hu with rfl | hu
    · exact hg.1
    · by_cases h : u < g.length
      · exact absurd ((hg.2.2.1 u h).2 i hu) hi
      · omega
  obtain ⟨v, hv, hx⟩ := hx g hmg hgu hg.2.2.2 τ
  intro a w ha hw
  have hr := hx a w ha hw
  unfold wpListIn at hr ⊢
  split at hr
  · rename_i hw1
    rw [if_pos hw1]
    exact wpIn_swap (Oper.wpIn_mono (fun a' w' h' => show wpListIn _ _ _ _ _ [] a' w' from ⟨g, hok, fun _ _ => rfl, ⟨v, hv, h'.1⟩, h'.2⟩) hr)
  · rename_i hw1
    rw [if_neg hw1]
    exact ⟨fun _ _ => trivial, ⟨g, hok, fun _ _ => rfl, ⟨v, hv, hr.2.1⟩, hr.2.2⟩⟩
theorem DrawE.eff {i : Nat} {o : Oper} {r : List Oper} (k : Nat) (hE : E.getD k 0 = i) (hk : k < E.length) (hnd : nd.getD i 0 = k + 1) (hU : ∀ j ∈ U.getD k [], j ∈ depOf o) (hst : ∀ j g a, nd.getD j 0 ≤ g.length → nth j (vs (g ++ [a])) = nth j (vs g))
    (hle : ∀ L g, okN F nd E U L g → (∀ j ∈ depOf o, j ∈ L) → k ≤ g.length)
    (hx : ∀ g, g.length = k → F g → ∀ τ, XO P ro n N ds w0 X (PostK (EPost F N ds w0 X vs H i g o.dst (flatS ops (vs g) (depOf o) σ ++ τ))) ops (flatS ops (vs g) (depOf o) σ ++ τ) (H g) [o])
    (t : DrawG P ro n N ds w0 X ops vs H (okN F nd E U) σ (i + 1) r) : DrawG P ro n N ds w0 X ops vs H (okN F nd E U) σ i (o :: r) := by
  refine ⟨fun L g hg hi hd τ => ?_, t⟩
  have hkg := hle L g hg hd
  have hgk : g.length = k := by
    by_cases h : k < g.length
    · exact absurd (hE ▸ (hg.2.2.1 k h).1) hi
    · omega
  have hh := hx g hgk hg.2.2.2 τ
  intro a w ha hw
  have hr := hh a w ha hw
  have key : ∀ a' w', EPost F N ds w0 X vs H i g o.dst (flatS ops (vs g) (depOf o) σ ++ τ) a' w' → GPost N ds w0 X ops vs H (okN F nd E U) i L g o.dst (flatS ops (vs g) (depOf o) σ ++ τ) a' w' := by
    rintro a' w' ⟨x, h1, h2, h3⟩
    refine ⟨g ++ [x], ⟨by simp; omega, fun j hj => ?_, fun q hq => ?_, h3⟩, fun j hj => hst j g x (hg.2.1 j hj), h1, h2⟩
    · rcases List.mem_cons.1 hj with rfl | hj
      · rw [hnd, List.length_append, List.length_singleton]; omega
      · have := hg.2.1 j hj; rw [List.length_append, List.length_singleton]; omega
    · by_cases e : q = k
      · subst e
        exact ⟨by rw [hE]; exact List.mem_cons_self .., fun j hj => List.mem_cons_of_mem _ (hd j (hU j hj))⟩
      · have := hg.2.2.1 q (by simp at hq; omega)
        exact ⟨List.mem_cons_of_mem _ this.1, fun j hj => List.mem_cons_of_mem _ (this.2 j hj)⟩
  unfold wpListIn at hr ⊢
  split at hr
  · rename_i hw1
    rw [if_pos hw1]
    exact wpIn_swapK (Oper.wpIn_mono (fun a' w' h' => show wpListIn _ _ _ _ _ [] a' w' from key a' w' h') hr)
  · rename_i hw1
    rw [if_neg hw1]
    exact ⟨fun _ _ => trivial, key _ _ hr.2⟩
theorem xc_drawE {id : Nat} (ws : List GV → List (Nat × Value)) (Hf : Hp → List GV → Hp) (F : List GV → Prop) (nd E : List Nat) (U : List (List Nat)) (hF0 : F []) {cs : List Value} (hlv : SameLen cs ops) (hH0 : Hf η [] = η) (hmix : P.follows .mixedOrders = true) (hbind : true = true) (hdeps : depsB 0 ops = true) (hdist : distB (dstsOf_ ops) = true) (hfresh : freshB σ (dstsOf_ ops) = true)
    (hE : E.all (fun e => Nat.blt e ops.length && decide (nd.getD e 0 = E.idxOf e + 1)) = true) (hEn : E.Nodup)
    (hop : DrawG P ro n N ds w0 X ops (fun g => ovr 0 (ws g) cs) (Hf η) (okN F nd E U) σ 0 ops) (hQ : ∀ g, g.length = E.length → F g → XQ N ds w0 X Q .normal (flatS ops (ovr 0 (ws g) cs) (List.range ops.length) σ) (Hf η g)) : XC P ro n N ds w0 X Q σ η (.region id ops.toArray true) := by
  refine xc_drawG (fun g => ovr 0 (ws g) cs) (Hf η) (okN F nd E U) [] ⟨Nat.zero_le _, by simp, by simp, hF0⟩ hH0 (fun g => (ovr_len ..).trans hlv.len) hmix hbind hdeps hdist hfresh hop fun L g hg hall => hQ g ?_ hg.2.2.2
  refine Nat.le_antisymm hg.1 ?_
  by_cases he : E.length = 0
  · omega
  · have hlt : E.length - 1 < E.length := by omega
    have h1 := List.all_eq_true.1 hE _ (List.getElem_mem hlt)
    rw [Bool.and_eq_true, decide_eq_true_eq, Nat.blt_eq] at h1
    have h2 := hg.2.1 _ (hall _ h1.1)
    rw [h1.2] at h2
    have h3 : E.idxOf E[E.length - 1] = E.length - 1 := hEn.idxOf_getElem _ hlt
    omega
end
end Go.Proofs.YtaijhbliagjeaaaDoor
namespace Go.Proofs.YtaijhbliagjeaaaDoor
open Go.RowKit
set_option linter.unusedVariables false
set_option linter.unusedSimpArgs false
/-- what the i-th may read of the old values: their writers wait for it -/
def volB (ops : List Oper) (i k : Nat) : Bool := ops.any fun o => (o.dst == some k) && (depOf o).contains i
def volS (ops : List Oper) (i : Nat) (ρ : Slots) : Slots := ρ.filter fun p => volB ops i p.1
section
variable {P : Program} {ro : Option Nat} {n N : Nat} {ds : List Deferred} {w0 : World} {X : Nat → Prop} {Q : Exit → Act → World → Prop} {σ : Slots} {η : Hp}
def DrawV (P : Program) (ro : Option Nat) (n N : Nat) (ds : List Deferred) (w0 : World) (X : Nat → Prop) (ops : List Oper) (vs : List Value) (ρ σ : Slots) (η : Hp) : Nat → List Oper → List Value → Prop
  | i, o :: r, v :: vr => (∀ τ, XO P ro n N ds w0 X (OnePost N ds w0 X η (putS o.dst v (flatS ops vs (depOf o) σ ++ (volS ops i ρ ++ τ)))) ops (flatS ops vs (depOf o) σ ++ (volS ops i ρ ++ τ)) η [o]) ∧ DrawV P ro n N ds w0 X ops vs ρ σ η (i + 1) r vr
  | _, _, _ => True
theorem DrawV.nil {ops : List Oper} {vs : List Value} {ρ : Slots} {i : Nat} : DrawV P ro n N ds w0 X ops vs ρ σ η i [] [] := trivial
theorem DrawV.cons {ops : List Oper} {vs : List Value} {ρ : Slots} {i : Nat} {o : Oper} {r : List Oper} {v : Value} {vr : List Value} (h : ∀ τ, XO P ro n N ds w0 X (OnePost N ds w0 X η (putS o.dst v (flatS ops vs (depOf o) σ ++ (volS ops i ρ ++ τ)))) ops (flatS ops vs (depOf o) σ ++ (volS ops i ρ ++ τ)) η [o])
    (t : DrawV P ro n N ds w0 X ops vs ρ σ η (i + 1) r vr) : DrawV P ro n N ds w0 X ops vs ρ σ η i (o :: r) (v :: vr) := ⟨h, t⟩
end
end Go.Proofs.YtaijhbliagjeaaaDoor
namespace Go.Proofs.YtaijhbliagjeaaaDoor
open Go.RowKit Go.Proofs.YtaijhbliagjeaaaDoorW.PrintWords
set_option linter.unusedVariables false
set_option linter.unusedSimpArgs false
end Go.Proofs.YtaijhbliagjeaaaDoor
namespace Go.Proofs.YtaijhbliagjeaaaDoor
open Go.RowKit Go.Proofs.YtaijhbliagjeaaaDoorW.PrintWords
set_option linter.unusedVariables false
set_option linter.unusedSimpArgs false
/-- a row of whatever cells that a call made -/
def RowV (e : TypeId) (base : Nat) (w : World) (r : RowR) (xs : List Value) : Prop := (r = none → xs = []) ∧ ∀ p, r = some p → base ≤ p.1 ∧ ∃ o, w.heap[p.1]? = some o ∧ orow e 1 xs.length p.2 xs o
theorem WOK.rowV {w0 : World} {X : Nat → Prop} {η : Hp} {w w' : World} (h : WOK w0 X η w) (hb : Below w.heap.size w w') {e : TypeId} {r : RowR} {xs : List Value} (hr : RowV e w.heap.size w' r xs) : WOK w0 X (hpR e 1 r xs.length xs ++ η) w' := by
  cases r with
  | none => exact h.below hb
  | some p =>
    obtain ⟨h1, o, h2, h3⟩ := hr.2 p rfl
    exact h.more hb h1 h2 h3
theorem RowV.of {w0 : World} {η : Hp} {w : World} {e : TypeId} {r : RowR} {xs : List Value} (h : WOK w0 XNone (hpR e 1 r xs.length xs ++ η) w) (h0 : r = none → xs = []) : RowV e w0.heap.size w r xs := by
  refine ⟨h0, fun p hp => ?_⟩
  subst hp
  exact ⟨h.own (List.Mem.head _), h.bl (p.1, true, orow e 1 xs.length p.2 xs) (List.Mem.head _)⟩
end Go.Proofs.YtaijhbliagjeaaaDoor
namespace Go.Proofs.YtaijhbliagjeaaaDoor
open Go.RowKit Go.MapKept
set_option linter.unusedVariables false
set_option linter.unusedSimpArgs false
theorem erase_kv (x : Int) : ∀ (l : List (Int × Value)) (es : List MapEntry) (i : Nat) (j : Nat) (u : Value), es.map kvE = l.map kvI → Instr.findNow (.int .i64) (.int .i64 x) es i = some (some (i + j, u)) →
    (es.eraseIdx j).map kvE = (imDel x l).map kvI
  | [], [], i, j, u, _, h => by simp [Instr.findNow] at h
  | [], _ :: _, _, _, _, h, _ => by simp at h
  | _ :: _, [], _, _, _, h, _ => by simp at h
  | p :: r, e :: es, i, j, u, h, hf => by
    simp only [List.map_cons, List.cons.injEq] at h
    obtain ⟨h1, h2⟩ := h
    have hk : e.key = .int .i64 p.1 := congrArg Prod.fst h1
    by_cases hx : p.1 = x
    · have : j = 0 := by
        simp [Instr.findNow, Instr.sameNow, hk, hx] at hf
        omega
      subst this
      simp [imDel, hx, h2]
    · have hx' : (x == p.1) = false := by simpa using fun h => hx h.symm
      simp only [Instr.findNow, Instr.sameNow, hk, ↓reduceIte, hx'] at hf
      cases j with
      | zero =>
        exfalso
        rcases findNow_l x r es (i + 1) h2 with ⟨_, h3⟩ | ⟨j', v', e', _, h3, _, _⟩
        · rw [h3] at hf; simp at hf
        · rw [h3] at hf; simp at hf; omega
      | succ j =>
        have ih := erase_kv x r es (i + 1) j u h2 (by rw [hf]; congr 2; simp; omega)
        simp [imDel, hx, h1, ih]
theorem imDel_none (x : Int) : ∀ l : List (Int × Value), imGet x l = none → imDel x l = l
  | [], _ => rfl
  | p :: r, h => by
    by_cases hx : p.1 = x
    · simp [imGet, hx] at h
    · simp only [imGet, hx, if_false] at h
      simp only [imDel, hx, if_false]
      rw [imDel_none x r h]
theorem imDel_sub (x : Int) : ∀ l : List (Int × Value), (imDel x l).Sublist l
  | [] => List.Sublist.refl _
  | p :: r => by
    by_cases hx : p.1 = x
    · simp only [imDel, hx, if_true]; exact List.sublist_cons_self _ _
    · simp only [imDel, hx, if_false]; exact (imDel_sub x r).cons_cons p
section
variable {P : Program} {w : World} {t k e : TypeId} {b : Nat} {l : List (Int × Value)}
theorem IMap.del (h : IMap w b l) (ht : P.underlying t = some (.map k e)) (hk : P.underlying k = some (.int .i64)) (ty tk : TypeId) (x : Int) :
    ∃ o : Obj, (Builtin.delete_ #[t, tk] ty #[.map (some b), .int .i64 x]).run P w = .ok (.tuple #[]) (w.putObj b o) ∧ IMap (w.putObj b o) b (imDel x l) := by
  have hlt := h.lt
  obtain ⟨es, c, hb, hE⟩ := h
  have hkey : IsKey (.int .i64) (.int .i64 x) := rfl
  rcases findNow_l x l es.toList 0 hE.is with ⟨h1, h2⟩ | ⟨j, u, e', h1, h2, h3, h4⟩
  · refine ⟨.map es c, ?_, _, _, World.putObj_heap_same hlt, by rw [imDel_none x l h1]; exact hE⟩
    simp [Builtin.delete_, run_underlying ht, MapKept.run_getObj_map hb, run_checkKey hk hkey, run_findKey hk h2, MapKept.run_setObj_map _ hb, Result.andThen, World.putObj]
  · refine ⟨.map (es.eraseIdxIfInBounds j) c, ?_, _, _, World.putObj_heap_same hlt, ?_⟩
    · simp [Builtin.delete_, run_underlying ht, MapKept.run_getObj_map hb, run_checkKey hk hkey, run_findKey hk h2, MapKept.run_setObj_map _ hb, Result.andThen, World.putObj]
    · have htl : (es.eraseIdxIfInBounds j).toList = es.toList.eraseIdx j := by simp
      have hsub : ((es.eraseIdxIfInBounds j).toList).Sublist es.toList := by rw [htl]; exact List.eraseIdx_sublist ..
      exact ⟨by rw [htl]; exact erase_kv x l es.toList 0 j u hE.is (by simpa using h2), hE.keys.sublist ((imDel_sub x l).map _), fun e he => hE.born e (hsub.subset he), hE.once.sublist (hsub.map _)⟩
end
end Go.Proofs.YtaijhbliagjeaaaDoor
namespace Go.Proofs.YtaijhbliagjeaaaDoor
open Go.RowKit
set_option linter.unusedVariables false
set_option linter.unusedSimpArgs false
end Go.Proofs.YtaijhbliagjeaaaDoor
namespace Go.Proofs.YtaijhbliagjeaaaDoor
open Go.RowKit Go.MapKept
set_option linter.unusedVariables false
set_option linter.unusedSimpArgs false
/-- one entry's shape told anew -/
inductive Rep (b : Nat) (φ' : HP) : Hp → Hp → Prop
  | head {wr : Bool} {φ : HP} {r : Hp} : Rep b φ' ((b, wr, φ) :: r) ((b, wr, φ') :: r)
  | tail {e : Nat × Bool × HP} {r r' : Hp} (h : Rep b φ' r r') : Rep b φ' (e :: r) (e :: r')
theorem Rep.app {b : Nat} {φ' : HP} {r r' : Hp} (h : Rep b φ' r r') : ∀ l : Hp, Rep b φ' (l ++ r) (l ++ r')
  | [] => h
  | e :: l => .tail (h.app l)
theorem Rep.keys {b : Nat} {φ' : HP} {η η' : Hp} (h : Rep b φ' η η') : η'.map (·.1) = η.map (·.1) := by
  induction h with
  | head => rfl
  | tail _ ih => simp [ih]
theorem Rep.mem {b : Nat} {φ' : HP} {η η' : Hp} (h : Rep b φ' η η') : ∀ e ∈ η', (∃ wr φ, e = (b, wr, φ') ∧ (b, wr, φ) ∈ η) ∨ e ∈ η := by
  induction h with
  | @head wr φ r =>
    intro e he
    rcases List.mem_cons.1 he with rfl | he
    · exact .inl ⟨wr, φ, rfl, List.mem_cons_self ..⟩
    · exact .inr (List.mem_cons_of_mem _ he)
  | tail _ ih =>
    intro e he
    rcases List.mem_cons.1 he with rfl | he
    · exact .inr (List.mem_cons_self ..)
    · rcases ih e he with ⟨wr, φ, h1, h2⟩ | h1
      · exact .inl ⟨wr, φ, h1, List.mem_cons_of_mem _ h2⟩
      · exact .inr (List.mem_cons_of_mem _ h1)
theorem WOK.rep {w0 : World} {X : Nat → Prop} {η η' : Hp} {w : World} (h : WOK w0 X η w) {b : Nat} {φ' : HP} (hR : Rep b φ' η η') {o : Obj} (ho : w.heap[b]? = some o) (hφ : φ' o) : WOK w0 X η' w := by
  refine ⟨h.kx, fun e he => ?_, by rw [hR.keys]; exact h.nd, fun e he hw => ?_⟩
  · rcases hR.mem e he with ⟨wr, φ, rfl, _⟩ | he
    · exact ⟨o, ho, hφ⟩
    · exact h.bl e he
  · rcases hR.mem e he with ⟨wr, φ, rfl, hm⟩ | he
    · exact h.ow (b, wr, φ) hm hw
    · exact h.ow e he hw
/-- an entry of a set -/
theorem Ents.setV {es : Array MapEntry} {c : Nat} {s : List Int} (h : Ents es c (setV s)) {e : MapEntry} (he : e ∈ es.toList) : ∃ k, k ∈ s ∧ e.key = .int .i64 k ∧ e.val = .bool true := by
  have h1 : kvE e ∈ es.toList.map kvE := List.mem_map_of_mem he
  rw [h.is, Go.Proofs.YtaijhbliagjeaaaDoor.setV, List.map_map] at h1
  obtain ⟨k, hk, h2⟩ := List.mem_map.1 h1
  exact ⟨k, hk, (congrArg Prod.fst h2).symm, (congrArg Prod.snd h2).symm⟩
end Go.Proofs.YtaijhbliagjeaaaDoor
namespace Go.Proofs.YtaijhbliagjeaaaDoor
open Go.RowKit Go.MapKept
set_option linter.unusedVariables false
set_option linter.unusedSimpArgs false
end Go.Proofs.YtaijhbliagjeaaaDoor
namespace Go.Proofs.YtaijhbliagjeaaaDoor
open Go.RowKit Go.MapKept
set_option linter.unusedVariables false
set_option linter.unusedSimpArgs false
section
variable {P : Program} {ro : Option Nat} {n N : Nat} {ds : List Deferred} {w0 : World} {X : Nat → Prop} {Q : Exit → Act → World → Prop} {σ : Slots} {η : Hp} {ops rest : List Oper} {d : Option Tmp} {ty : TypeId} {pos : String} {aft : Array Edge} {g : Option (Nat × Bool)}
/-- blocks that a call has laid -/
theorem WOK.join {η ζ : Hp} {w w' : World} (h : WOK w0 X η w) (k : WOK w XNone ζ w') (hz : ∀ e ∈ ζ, e.2.1 = true) : WOK w0 X (ζ ++ η) w' := by
  have hb := h.below k.kx.below
  have hfr : ∀ e ∈ ζ, w.heap.size ≤ e.1 := fun e he => (k.ow e he (hz e he)).resolve_right (fun q => q)
  refine ⟨hb.kx, fun e he => ?_, ?_, fun e he hw => ?_⟩
  · rcases List.mem_append.1 he with he | he
    · exact k.bl e he
    · exact hb.bl e he
  · rw [List.map_append, List.nodup_append]
    refine ⟨k.nd, hb.nd, fun a ha b hb' e => ?_⟩
    obtain ⟨x, hx, rfl⟩ := List.mem_map.1 ha
    obtain ⟨y, hy, rfl⟩ := List.mem_map.1 hb'
    have h1 := hfr x hx
    have h2 := h.lt hy
    omega
  · rcases List.mem_append.1 he with he | he
    · exact .inl (Nat.le_trans h.kx.size (hfr e he))
    · exact hb.ow e he hw
end
end Go.Proofs.YtaijhbliagjeaaaDoor
namespace Go.Proofs.YtaijhbliagjeaaaDoor
open Go.RowKit
set_option linter.unusedVariables false
set_option linter.unusedSimpArgs false
section
variable {P : Program} {ro : Option Nat} {n N : Nat} {ds : List Deferred} {w0 : World} {X : Nat → Prop} {Q : Exit → Act → World → Prop} {σ : Slots} {η : Hp} {ops rest : List Oper} {d : Option Tmp} {ty : TypeId} {pos : String} {aft : Array Edge} {g : Option (Nat × Bool)} {x y : Operand} {t t' : TypeId}
theorem xo_rem {k : IntKind} {a b : Int} (hg : gS ops σ g = some true) (hx : ev σ x = some (.int k a)) (hy : ev σ y = some (.int k b)) (h0 : 0 ≤ a) (hb : 0 < b) (hN : dstOK N d = true) (h : XO P ro n N ds w0 X Q ops (putS d (.int k (a % b)) σ) η rest) :
    XO P ro n N ds w0 X Q ops σ η (⟨d, .binOp .rem t x y t', ty, pos, aft, g⟩ :: rest) :=
  xo_val _ rfl hg hN (fun _ w ha hw => by
    have h1 : b ≠ 0 := by omega
    simp [execOp, ha.ev hx, ha.ev hy, eqGuard_rem, binOp_rem, Op.intDiv, h1, Int.tmod_eq_emod_of_nonneg h0]) h
theorem xc_slots {c : Code} (σ' : Slots) (hs : subS σ' σ) (h : XC P ro n N ds w0 X Q σ' η c) : XC P ro n N ds w0 X Q σ η c := fun a w ha hw => h a w (ha.sub hs) hw
end
end Go.Proofs.YtaijhbliagjeaaaDoor
namespace Go.Proofs.YtaijhbliagjeaaaDoor
open Go.RowKit
set_option linter.unusedVariables false
set_option linter.unusedSimpArgs false
end Go.Proofs.YtaijhbliagjeaaaDoor
namespace Go.Proofs.YtaijhbliagjeaaaDoor
open Go.RowKit
set_option linter.unusedVariables false
set_option linter.unusedSimpArgs false
def aggD : TypeDesc → Bool
  | .struct _ | .array _ _ => true
  | _ => false
theorem tk_of {P : Program} {t k : Nat} {d : TypeDesc} (hu : P.underlying t = some d) (hd : aggD d = Nat.blt 0 k) (hi : (P.info? t).map (·.size) = some (bif Nat.beq k 0 then 1 else k)) :
    (∀ w, (isAgg (t, k).1).run P w = .ok (Nat.blt 0 (t, k).2) w) ∧ (∀ w, (sizeOf (t, k).1).run P w = .ok (bif Nat.beq (t, k).2 0 then 1 else (t, k).2) w) := by
  refine ⟨fun w => ?_, fun w => ?_⟩
  · show (isAgg t).run P w = .ok (Nat.blt 0 k) w
    rw [← hd]
    unfold isAgg
    rw [Sem.run_bind, run_underlying hu w]
    cases d <;> rfl
  · obtain ⟨i, h1, h2⟩ := Option.map_eq_some_iff.1 hi
    show (sizeOf t).run P w = .ok (bif Nat.beq k 0 then 1 else k) w
    rw [← h2]
    simp [sizeOf, typeInfo, h1]
theorem zs_of {P : Program} {t : Nat} {v : Value} (hi : (P.info? t).bind (·.zero) = some v) : ∀ w, (zeroValue (t, v).1).run P w = .ok (t, v).2 w := by
  intro w
  obtain ⟨i, h1, h2⟩ := Option.bind_eq_some_iff.1 hi
  show (zeroValue t).run P w = .ok v w
  simp [zeroValue, typeInfo, h1, h2]
def ty_tk : List (Nat × Nat) := [(1, 0), (2, 0), (3, 0), (4, 0), (5, 0), (6, 0), (7, 4), (8, 4), (9, 0), (10, 0), (11, 0), (12, 0), (13, 2), (14, 2), (15, 0), (16, 0), (17, 0), (18, 1), (19, 1), (21, 0), (22, 2), (23, 2), (24, 9), (25, 9), (26, 0), (27, 0), (28, 0), (29, 0), (30, 0), (31, 0), (32, 0), (33, 0), (35, 0), (37, 0), (38, 0), (39, 0), (40, 0), (41, 0), (42, 0), (43, 2), (44, 2), (45, 0), (46, 0), (47, 0), (48, 0), (49, 0), (50, 0), (51, 11), (52, 11), (54, 0), (55, 0), (56, 0), (57, 0), (58, 0), (60, 0), (61, 0), (62, 0), (63, 0), (64, 0), (65, 0), (66, 0), (67, 0), (68, 0), (69, 0), (70, 2), (71, 0), (72, 0), (73, 2), (74, 2), (75, 4), (76, 0), (77, 0), (78, 0), (79, 0), (80, 0), (81, 0), (82, 0), (83, 4), (84, 4), (88, 0), (89, 0), (90, 0), (91, 0), (92, 0), (93, 0), (94, 11), (95, 11)]
def ty_zs : List (Nat × Value) := [(1, .nilFunc), (2, (.int .i64 0)), (3, (.int .i64 0)), (4, (.bool false)), (5, (.int .u8 0)), (6, (.int .u8 0)), (7, (.agg #[(.int .i64 0), (.int .i64 0), (.bool false), (.int .u8 0)])), (8, (.agg #[(.int .i64 0), (.int .i64 0), (.bool false), (.int .u8 0)])), (9, (.string ⟨#[]⟩)), (10, (.string ⟨#[]⟩)), (11, (.string ⟨#[]⟩)), (12, (.int .u64 0)), (13, (.agg #[(.string ⟨#[]⟩), (.int .u64 0)])), (14, (.agg #[(.string ⟨#[]⟩), (.int .u64 0)])), (15, (.pointer none)), (16, (.pointer none)), (17, (.pointer none)), (18, (.agg #[(.pointer none)])), (19, (.agg #[(.pointer none)])), (21, (.int .i32 0)), (22, (.agg #[(.int .i64 0), (.int .i64 0)])), (23, (.agg #[(.int .i64 0), (.int .i64 0)])), (24, (.agg #[(.int .i64 0), (.int .i64 0), (.int .i64 0), (.int .i64 0), (.int .i64 0), (.int .i64 0), (.int .i64 0), (.int .i64 0), (.int .i64 0)])), (25, (.agg #[(.int .i64 0), (.int .i64 0), (.int .i64 0), (.int .i64 0), (.int .i64 0), (.int .i64 0), (.int .i64 0), (.int .i64 0), (.int .i64 0)])), (26, (.slice none 0 0)), (27, (.slice none 0 0)), (28, .nilFunc), (29, .nilFunc), (30, .nilFunc), (31, .nilFunc), (32, .nilFunc), (33, (.int .i64 0)), (35, .nilFunc), (37, .nilFunc), (38, .nilFunc), (39, .nilFunc), (40, .nilFunc), (41, .nilFunc), (42, .nilFunc), (43, (.agg #[(.int .i64 0), (.int .i64 0)])), (44, (.agg #[(.int .i64 0), (.int .i64 0)])), (45, .nilFunc), (46, .nilFunc), (47, .nilFunc), (48, .nilFunc), (49, .nilFunc), (50, (.int .u32 0)), (51, (.agg #[(.int .i64 0), (.int .i64 0), (.int .i64 0), (.int .i64 0), (.int .i64 0), (.int .i64 0), (.int .i64 0), (.int .i64 0), (.int .i64 0), (.slice none 0 0), (.int .i64 0)])), (52, (.agg #[(.int .i64 0), (.int .i64 0), (.int .i64 0), (.int .i64 0), (.int .i64 0), (.int .i64 0), (.int .i64 0), (.int .i64 0), (.int .i64 0), (.slice none 0 0), (.int .i64 0)])), (54, .nilFunc), (55, (.map none)), (56, .nilFunc), (57, .nilFunc), (58, .nilFunc), (60, .nilFunc), (61, (.slice none 0 0)), (62, .nilFunc), (63, .nilFunc), (64, .nilFunc), (65, .nilFunc), (66, .nilFunc), (67, .nilFunc), (68, .nilFunc), (69, .nilFunc), (70, (.agg #[(.int .i64 0), (.int .i64 0)])), (71, .nilFunc), (72, .nilFunc), (73, (.agg #[.nilFunc, .nilFunc])), (74, (.agg #[.nilFunc, .nilFunc])), (75, (.agg #[.nilFunc, .nilFunc, .nilFunc, .nilFunc])), (76, .nilFunc), (77, .nilFunc), (78, .nilFunc), (79, .nilFunc), (80, .nilFunc), (81, .nilFunc), (82, .nilFunc), (83, (.agg #[(.pointer none), (.pointer none), (.pointer none), (.string ⟨#[]⟩)])), (84, (.agg #[(.pointer none), (.pointer none), (.pointer none), (.string ⟨#[]⟩)])), (88, (.int .u8 0)), (89, (.int .u8 0)), (90, .nilFunc), (91, (.pointer none)), (92, (.int .i32 0)), (93, (.int .i32 0)), (94, (.agg #[(.int .u64 0), (.int .u64 0), (.int .u32 0), (.int .u8 0), (.int .u8 0), (.int .u8 0), (.int .u8 0), .nilFunc, (.pointer none), (.int .i32 0), (.int .i32 0)])), (95, (.agg #[(.int .u64 0), (.int .u64 0), (.int .u32 0), (.int .u8 0), (.int .u8 0), (.int .u8 0), (.int .u8 0), .nilFunc, (.pointer none), (.int .i32 0), (.int .i32 0)]))]
def ty_fo : List (Nat × List Nat) := [(7, [0, 1, 2, 3]), (8, [0, 1, 2, 3]), (13, [0, 1]), (14, [0, 1]), (18, [0]), (19, [0]), (22, [0, 1]), (23, [0, 1]), (24, [0, 2, 4, 6, 8]), (25, [0, 2, 4, 6, 8]), (43, [0, 1]), (44, [0, 1]), (51, [0, 9, 10]), (52, [0, 9, 10]), (73, [0, 1]), (74, [0, 1]), (83, [0, 1, 2, 3]), (84, [0, 1, 2, 3]), (94, [0, 1, 2, 3, 4, 5, 6, 7, 8, 9, 10]), (95, [0, 1, 2, 3, 4, 5, 6, 7, 8, 9, 10])]
def ty_el : List (Nat × Nat) := [(26, 3), (27, 50), (61, 23)]
def ty_ik : List (Nat × IntKind) := [(2, .i64), (3, .i64), (5, .u8), (6, .u8), (12, .u64), (21, .i32), (33, .i64), (50, .u32), (88, .u8), (89, .u8), (92, .i32), (93, .i32)]
def ty_mp : List (Nat × Nat × Nat) := [(55, 3, 23)]
set_option maxRecDepth 10000 in
theorem ty_htk : ∀ p ∈ ty_tk, (∀ w, (isAgg p.1).run Tryd.prog w = .ok (Nat.blt 0 p.2) w) ∧ (∀ w, (sizeOf p.1).run Tryd.prog w = .ok (bif Nat.beq p.2 0 then 1 else p.2) w) := by
  unfold ty_tk
  simp only [List.mem_cons, List.not_mem_nil, or_false, forall_eq_or_imp, forall_eq]
  exact ⟨tk_of (k := 0) Tryd.underlying1 rfl (by kernel_rfl),
    tk_of (k := 0) Tryd.underlying2 rfl (by kernel_rfl),
    tk_of (k := 0) Tryd.underlying3 rfl (by kernel_rfl),
    tk_of (k := 0) Tryd.underlying4 rfl (by kernel_rfl),
    tk_of (k := 0) Tryd.underlying5 rfl (by kernel_rfl),
    tk_of (k := 0) Tryd.underlying6 rfl (by kernel_rfl),
    tk_of (k := 4) Tryd.underlying7 rfl (by kernel_rfl),
    tk_of (k := 4) Tryd.underlying8 rfl (by kernel_rfl),
    tk_of (k := 0) Tryd.underlying9 rfl (by kernel_rfl),
    tk_of (k := 0) Tryd.underlying10 rfl (by kernel_rfl),
    tk_of (k := 0) Tryd.underlying11 rfl (by kernel_rfl),
    tk_of (k := 0) Tryd.underlying12 rfl (by kernel_rfl),
    tk_of (k := 2) Tryd.underlying13 rfl (by kernel_rfl),
    tk_of (k := 2) Tryd.underlying14 rfl (by kernel_rfl),
    tk_of (k := 0) Tryd.underlying15 rfl (by kernel_rfl),
    tk_of (k := 0) Tryd.underlying16 rfl (by kernel_rfl),
    tk_of (k := 0) Tryd.underlying17 rfl (by kernel_rfl),
    tk_of (k := 1) Tryd.underlying18 rfl (by kernel_rfl),
    tk_of (k := 1) Tryd.underlying19 rfl (by kernel_rfl),
    tk_of (k := 0) Tryd.underlying21 rfl (by kernel_rfl),
    tk_of (k := 2) Tryd.underlying22 rfl (by kernel_rfl),
    tk_of (k := 2) Tryd.underlying23 rfl (by kernel_rfl),
    tk_of (k := 9) Tryd.underlying24 rfl (by kernel_rfl),
    tk_of (k := 9) Tryd.underlying25 rfl (by kernel_rfl),
    tk_of (k := 0) Tryd.underlying26 rfl (by kernel_rfl),
    tk_of (k := 0) Tryd.underlying27 rfl (by kernel_rfl),
    tk_of (k := 0) Tryd.underlying28 rfl (by kernel_rfl),
    tk_of (k := 0) Tryd.underlying29 rfl (by kernel_rfl),
    tk_of (k := 0) Tryd.underlying30 rfl (by kernel_rfl),
    tk_of (k := 0) Tryd.underlying31 rfl (by kernel_rfl),
    tk_of (k := 0) Tryd.underlying32 rfl (by kernel_rfl),
    tk_of (k := 0) Tryd.underlying33 rfl (by kernel_rfl),
    tk_of (k := 0) Tryd.underlying35 rfl (by kernel_rfl),
    tk_of (k := 0) Tryd.underlying37 rfl (by kernel_rfl),
    tk_of (k := 0) Tryd.underlying38 rfl (by kernel_rfl),
    tk_of (k := 0) Tryd.underlying39 rfl (by kernel_rfl),
    tk_of (k := 0) Tryd.underlying40 rfl (by kernel_rfl),
    tk_of (k := 0) Tryd.underlying41 rfl (by kernel_rfl),
    tk_of (k := 0) Tryd.underlying42 rfl (by kernel_rfl),
    tk_of (k := 2) Tryd.underlying43 rfl (by kernel_rfl),
    tk_of (k := 2) Tryd.underlying44 rfl (by kernel_rfl),
    tk_of (k := 0) Tryd.underlying45 rfl (by kernel_rfl),
    tk_of (k := 0) Tryd.underlying46 rfl (by kernel_rfl),
    tk_of (k := 0) Tryd.underlying47 rfl (by kernel_rfl),
    tk_of (k := 0) Tryd.underlying48 rfl (by kernel_rfl),
    tk_of (k := 0) Tryd.underlying49 rfl (by kernel_rfl),
    tk_of (k := 0) Tryd.underlying50 rfl (by kernel_rfl),
    tk_of (k := 11) Tryd.underlying51 rfl (by kernel_rfl),
    tk_of (k := 11) Tryd.underlying52 rfl (by kernel_rfl),
    tk_of (k := 0) Tryd.underlying54 rfl (by kernel_rfl),
    tk_of (k := 0) Tryd.underlying55 rfl (by kernel_rfl),
    tk_of (k := 0) Tryd.underlying56 rfl (by kernel_rfl),
    tk_of (k := 0) Tryd.underlying57 rfl (by kernel_rfl),
    tk_of (k := 0) Tryd.underlying58 rfl (by kernel_rfl),
    tk_of (k := 0) Tryd.underlying60 rfl (by kernel_rfl),
    tk_of (k := 0) Tryd.underlying61 rfl (by kernel_rfl),
    tk_of (k := 0) Tryd.underlying62 rfl (by kernel_rfl),
    tk_of (k := 0) Tryd.underlying63 rfl (by kernel_rfl),
    tk_of (k := 0) Tryd.underlying64 rfl (by kernel_rfl),
    tk_of (k := 0) Tryd.underlying65 rfl (by kernel_rfl),
    tk_of (k := 0) Tryd.underlying66 rfl (by kernel_rfl),
    tk_of (k := 0) Tryd.underlying67 rfl (by kernel_rfl),
    tk_of (k := 0) Tryd.underlying68 rfl (by kernel_rfl),
    tk_of (k := 0) Tryd.underlying69 rfl (by kernel_rfl),
    tk_of (k := 2) Tryd.underlying70 rfl (by kernel_rfl),
    tk_of (k := 0) Tryd.underlying71 rfl (by kernel_rfl),
    tk_of (k := 0) Tryd.underlying72 rfl (by kernel_rfl),
    tk_of (k := 2) Tryd.underlying73 rfl (by kernel_rfl),
    tk_of (k := 2) Tryd.underlying74 rfl (by kernel_rfl),
    tk_of (k := 4) Tryd.underlying75 rfl (by kernel_rfl),
    tk_of (k := 0) Tryd.underlying76 rfl (by kernel_rfl),
    tk_of (k := 0) Tryd.underlying77 rfl (by kernel_rfl),
    tk_of (k := 0) Tryd.underlying78 rfl (by kernel_rfl),
    tk_of (k := 0) Tryd.underlying79 rfl (by kernel_rfl),
    tk_of (k := 0) Tryd.underlying80 rfl (by kernel_rfl),
    tk_of (k := 0) Tryd.underlying81 rfl (by kernel_rfl),
    tk_of (k := 0) Tryd.underlying82 rfl (by kernel_rfl),
    tk_of (k := 4) Tryd.underlying83 rfl (by kernel_rfl),
    tk_of (k := 4) Tryd.underlying84 rfl (by kernel_rfl),
    tk_of (k := 0) Tryd.underlying88 rfl (by kernel_rfl),
    tk_of (k := 0) Tryd.underlying89 rfl (by kernel_rfl),
    tk_of (k := 0) Tryd.underlying90 rfl (by kernel_rfl),
    tk_of (k := 0) Tryd.underlying91 rfl (by kernel_rfl),
    tk_of (k := 0) Tryd.underlying92 rfl (by kernel_rfl),
    tk_of (k := 0) Tryd.underlying93 rfl (by kernel_rfl),
    tk_of (k := 11) Tryd.underlying94 rfl (by kernel_rfl),
    tk_of (k := 11) Tryd.underlying95 rfl (by kernel_rfl)⟩
set_option maxRecDepth 10000 in
theorem ty_hzs : ∀ p ∈ ty_zs, ∀ w, (zeroValue p.1).run Tryd.prog w = .ok p.2 w := by
  unfold ty_zs
  simp only [List.mem_cons, List.not_mem_nil, or_false, forall_eq_or_imp, forall_eq]
  exact ⟨zs_of (t := 1) (v := .nilFunc) (by kernel_rfl),
    zs_of (t := 2) (v := (.int .i64 0)) (by kernel_rfl),
    zs_of (t := 3) (v := (.int .i64 0)) (by kernel_rfl),
    zs_of (t := 4) (v := (.bool false)) (by kernel_rfl),
    zs_of (t := 5) (v := (.int .u8 0)) (by kernel_rfl),
    zs_of (t := 6) (v := (.int .u8 0)) (by kernel_rfl),
    zs_of (t := 7) (v := (.agg #[(.int .i64 0), (.int .i64 0), (.bool false), (.int .u8 0)])) (by kernel_rfl),
    zs_of (t := 8) (v := (.agg #[(.int .i64 0), (.int .i64 0), (.bool false), (.int .u8 0)])) (by kernel_rfl),
    zs_of (t := 9) (v := (.string ⟨#[]⟩)) (by kernel_rfl),
    zs_of (t := 10) (v := (.string ⟨#[]⟩)) (by kernel_rfl),
    zs_of (t := 11) (v := (.string ⟨#[]⟩)) (by kernel_rfl),
    zs_of (t := 12) (v := (.int .u64 0)) (by kernel_rfl),
    zs_of (t := 13) (v := (.agg #[(.string ⟨#[]⟩), (.int .u64 0)])) (by kernel_rfl),
    zs_of (t := 14) (v := (.agg #[(.string ⟨#[]⟩), (.int .u64 0)])) (by kernel_rfl),
    zs_of (t := 15) (v := (.pointer none)) (by kernel_rfl),
    zs_of (t := 16) (v := (.pointer none)) (by kernel_rfl),
    zs_of (t := 17) (v := (.pointer none)) (by kernel_rfl),
    zs_of (t := 18) (v := (.agg #[(.pointer none)])) (by kernel_rfl),
    zs_of (t := 19) (v := (.agg #[(.pointer none)])) (by kernel_rfl),
    zs_of (t := 21) (v := (.int .i32 0)) (by kernel_rfl),
    zs_of (t := 22) (v := (.agg #[(.int .i64 0), (.int .i64 0)])) (by kernel_rfl),
    zs_of (t := 23) (v := (.agg #[(.int .i64 0), (.int .i64 0)])) (by kernel_rfl),
    zs_of (t := 24) (v := (.agg #[(.int .i64 0), (.int .i64 0), (.int .i64 0), (.int .i64 0), (.int .i64 0), (.int .i64 0), (.int .i64 0), (.int .i64 0), (.int .i64 0)])) (by kernel_rfl),
    zs_of (t := 25) (v := (.agg #[(.int .i64 0), (.int .i64 0), (.int .i64 0), (.int .i64 0), (.int .i64 0), (.int .i64 0), (.int .i64 0), (.int .i64 0), (.int .i64 0)])) (by kernel_rfl),
    zs_of (t := 26) (v := (.slice none 0 0)) (by kernel_rfl),
    zs_of (t := 27) (v := (.slice none 0 0)) (by kernel_rfl),
    zs_of (t := 28) (v := .nilFunc) (by kernel_rfl),
    zs_of (t := 29) (v := .nilFunc) (by kernel_rfl),
    zs_of (t := 30) (v := .nilFunc) (by kernel_rfl),
    zs_of (t := 31) (v := .nilFunc) (by kernel_rfl),
    zs_of (t := 32) (v := .nilFunc) (by kernel_rfl),
    zs_of (t := 33) (v := (.int .i64 0)) (by kernel_rfl),
    zs_of (t := 35) (v := .nilFunc) (by kernel_rfl),
    zs_of (t := 37) (v := .nilFunc) (by kernel_rfl),
    zs_of (t := 38) (v := .nilFunc) (by kernel_rfl),
    zs_of (t := 39) (v := .nilFunc) (by kernel_rfl),
    zs_of (t := 40) (v := .nilFunc) (by kernel_rfl),
    zs_of (t := 41) (v := .nilFunc) (by kernel_rfl),
    zs_of (t := 42) (v := .nilFunc) (by kernel_rfl),
    zs_of (t := 43) (v := (.agg #[(.int .i64 0), (.int .i64 0)])) (by kernel_rfl),
    zs_of (t := 44) (v := (.agg #[(.int .i64 0), (.int .i64 0)])) (by kernel_rfl),
    zs_of (t := 45) (v := .nilFunc) (by kernel_rfl),
    zs_of (t := 46) (v := .nilFunc) (by kernel_rfl),
    zs_of (t := 47) (v := .nilFunc) (by kernel_rfl),
    zs_of (t := 48) (v := .nilFunc) (by kernel_rfl),
    zs_of (t := 49) (v := .nilFunc) (by kernel_rfl),
    zs_of (t := 50) (v := (.int .u32 0)) (by kernel_rfl),
    zs_of (t := 51) (v := (.agg #[(.int .i64 0), (.int .i64 0), (.int .i64 0), (.int .i64 0), (.int .i64 0), (.int .i64 0), (.int .i64 0), (.int .i64 0), (.int .i64 0), (.slice none 0 0), (.int .i64 0)])) (by kernel_rfl),
    zs_of (t := 52) (v := (.agg #[(.int .i64 0), (.int .i64 0), (.int .i64 0), (.int .i64 0), (.int .i64 0), (.int .i64 0), (.int .i64 0), (.int .i64 0), (.int .i64 0), (.slice none 0 0), (.int .i64 0)])) (by kernel_rfl),
    zs_of (t := 54) (v := .nilFunc) (by kernel_rfl),
    zs_of (t := 55) (v := (.map none)) (by kernel_rfl),
    zs_of (t := 56) (v := .nilFunc) (by kernel_rfl),
    zs_of (t := 57) (v := .nilFunc) (by kernel_rfl),
    zs_of (t := 58) (v := .nilFunc) (by kernel_rfl),
    zs_of (t := 60) (v := .nilFunc) (by kernel_rfl),
    zs_of (t := 61) (v := (.slice none 0 0)) (by kernel_rfl),
    zs_of (t := 62) (v := .nilFunc) (by kernel_rfl),
    zs_of (t := 63) (v := .nilFunc) (by kernel_rfl),
    zs_of (t := 64) (v := .nilFunc) (by kernel_rfl),
    zs_of (t := 65) (v := .nilFunc) (by kernel_rfl),
    zs_of (t := 66) (v := .nilFunc) (by kernel_rfl),
    zs_of (t := 67) (v := .nilFunc) (by kernel_rfl),
    zs_of (t := 68) (v := .nilFunc) (by kernel_rfl),
    zs_of (t := 69) (v := .nilFunc) (by kernel_rfl),
    zs_of (t := 70) (v := (.agg #[(.int .i64 0), (.int .i64 0)])) (by kernel_rfl),
    zs_of (t := 71) (v := .nilFunc) (by kernel_rfl),
    zs_of (t := 72) (v := .nilFunc) (by kernel_rfl),
    zs_of (t := 73) (v := (.agg #[.nilFunc, .nilFunc])) (by kernel_rfl),
    zs_of (t := 74) (v := (.agg #[.nilFunc, .nilFunc])) (by kernel_rfl),
    zs_of (t := 75) (v := (.agg #[.nilFunc, .nilFunc, .nilFunc, .nilFunc])) (by kernel_rfl),
    zs_of (t := 76) (v := .nilFunc) (by kernel_rfl),
    zs_of (t := 77) (v := .nilFunc) (by kernel_rfl),
    zs_of (t := 78) (v := .nilFunc) (by kernel_rfl),
    zs_of (t := 79) (v := .nilFunc) (by kernel_rfl),
    zs_of (t := 80) (v := .nilFunc) (by kernel_rfl),
    zs_of (t := 81) (v := .nilFunc) (by kernel_rfl),
    zs_of (t := 82) (v := .nilFunc) (by kernel_rfl),
    zs_of (t := 83) (v := (.agg #[(.pointer none), (.pointer none), (.pointer none), (.string ⟨#[]⟩)])) (by kernel_rfl),
    zs_of (t := 84) (v := (.agg #[(.pointer none), (.pointer none), (.pointer none), (.string ⟨#[]⟩)])) (by kernel_rfl),
    zs_of (t := 88) (v := (.int .u8 0)) (by kernel_rfl),
    zs_of (t := 89) (v := (.int .u8 0)) (by kernel_rfl),
    zs_of (t := 90) (v := .nilFunc) (by kernel_rfl),
    zs_of (t := 91) (v := (.pointer none)) (by kernel_rfl),
    zs_of (t := 92) (v := (.int .i32 0)) (by kernel_rfl),
    zs_of (t := 93) (v := (.int .i32 0)) (by kernel_rfl),
    zs_of (t := 94) (v := (.agg #[(.int .u64 0), (.int .u64 0), (.int .u32 0), (.int .u8 0), (.int .u8 0), (.int .u8 0), (.int .u8 0), .nilFunc, (.pointer none), (.int .i32 0), (.int .i32 0)])) (by kernel_rfl),
    zs_of (t := 95) (v := (.agg #[(.int .u64 0), (.int .u64 0), (.int .u32 0), (.int .u8 0), (.int .u8 0), (.int .u8 0), (.int .u8 0), .nilFunc, (.pointer none), (.int .i32 0), (.int .i32 0)])) (by kernel_rfl)⟩
theorem ty_fo7 : ∀ f off, ([0, 1, 2, 3] : List Nat)[f]? = some off → ∀ a w, (Instr.fieldAt 7 (.pointer (some a)) f).run Tryd.prog w = .ok (.pointer (some (a.add off))) w := by
  intro f off h a w
  rcases f with _ | _ | _ | _ | f <;> simp at h <;> subst h <;> go_simp
theorem ty_fo8 : ∀ f off, ([0, 1, 2, 3] : List Nat)[f]? = some off → ∀ a w, (Instr.fieldAt 8 (.pointer (some a)) f).run Tryd.prog w = .ok (.pointer (some (a.add off))) w := by
  intro f off h a w
  rcases f with _ | _ | _ | _ | f <;> simp at h <;> subst h <;> go_simp
theorem ty_fo13 : ∀ f off, ([0, 1] : List Nat)[f]? = some off → ∀ a w, (Instr.fieldAt 13 (.pointer (some a)) f).run Tryd.prog w = .ok (.pointer (some (a.add off))) w := by
  intro f off h a w
  rcases f with _ | _ | f <;> simp at h <;> subst h <;> go_simp
theorem ty_fo14 : ∀ f off, ([0, 1] : List Nat)[f]? = some off → ∀ a w, (Instr.fieldAt 14 (.pointer (some a)) f).run Tryd.prog w = .ok (.pointer (some (a.add off))) w := by
  intro f off h a w
  rcases f with _ | _ | f <;> simp at h <;> subst h <;> go_simp
theorem ty_fo18 : ∀ f off, ([0] : List Nat)[f]? = some off → ∀ a w, (Instr.fieldAt 18 (.pointer (some a)) f).run Tryd.prog w = .ok (.pointer (some (a.add off))) w := by
  intro f off h a w
  rcases f with _ | f <;> simp at h <;> subst h <;> go_simp
theorem ty_fo19 : ∀ f off, ([0] : List Nat)[f]? = some off → ∀ a w, (Instr.fieldAt 19 (.pointer (some a)) f).run Tryd.prog w = .ok (.pointer (some (a.add off))) w := by
  intro f off h a w
  rcases f with _ | f <;> simp at h <;> subst h <;> go_simp
theorem ty_fo22 : ∀ f off, ([0, 1] : List Nat)[f]? = some off → ∀ a w, (Instr.fieldAt 22 (.pointer (some a)) f).run Tryd.prog w = .ok (.pointer (some (a.add off))) w := by
  intro f off h a w
  rcases f with _ | _ | f <;> simp at h <;> subst h <;> go_simp
theorem ty_fo23 : ∀ f off, ([0, 1] : List Nat)[f]? = some off → ∀ a w, (Instr.fieldAt 23 (.pointer (some a)) f).run Tryd.prog w = .ok (.pointer (some (a.add off))) w := by
  intro f off h a w
  rcases f with _ | _ | f <;> simp at h <;> subst h <;> go_simp
theorem ty_fo24 : ∀ f off, ([0, 2, 4, 6, 8] : List Nat)[f]? = some off → ∀ a w, (Instr.fieldAt 24 (.pointer (some a)) f).run Tryd.prog w = .ok (.pointer (some (a.add off))) w := by
  intro f off h a w
  rcases f with _ | _ | _ | _ | _ | f <;> simp at h <;> subst h <;> go_simp
theorem ty_fo25 : ∀ f off, ([0, 2, 4, 6, 8] : List Nat)[f]? = some off → ∀ a w, (Instr.fieldAt 25 (.pointer (some a)) f).run Tryd.prog w = .ok (.pointer (some (a.add off))) w := by
  intro f off h a w
  rcases f with _ | _ | _ | _ | _ | f <;> simp at h <;> subst h <;> go_simp
theorem ty_fo43 : ∀ f off, ([0, 1] : List Nat)[f]? = some off → ∀ a w, (Instr.fieldAt 43 (.pointer (some a)) f).run Tryd.prog w = .ok (.pointer (some (a.add off))) w := by
  intro f off h a w
  rcases f with _ | _ | f <;> simp at h <;> subst h <;> go_simp
theorem ty_fo44 : ∀ f off, ([0, 1] : List Nat)[f]? = some off → ∀ a w, (Instr.fieldAt 44 (.pointer (some a)) f).run Tryd.prog w = .ok (.pointer (some (a.add off))) w := by
  intro f off h a w
  rcases f with _ | _ | f <;> simp at h <;> subst h <;> go_simp
theorem ty_fo51 : ∀ f off, ([0, 9, 10] : List Nat)[f]? = some off → ∀ a w, (Instr.fieldAt 51 (.pointer (some a)) f).run Tryd.prog w = .ok (.pointer (some (a.add off))) w := by
  intro f off h a w
  rcases f with _ | _ | _ | f <;> simp at h <;> subst h <;> go_simp
theorem ty_fo52 : ∀ f off, ([0, 9, 10] : List Nat)[f]? = some off → ∀ a w, (Instr.fieldAt 52 (.pointer (some a)) f).run Tryd.prog w = .ok (.pointer (some (a.add off))) w := by
  intro f off h a w
  rcases f with _ | _ | _ | f <;> simp at h <;> subst h <;> go_simp
theorem ty_fo73 : ∀ f off, ([0, 1] : List Nat)[f]? = some off → ∀ a w, (Instr.fieldAt 73 (.pointer (some a)) f).run Tryd.prog w = .ok (.pointer (some (a.add off))) w := by
  intro f off h a w
  rcases f with _ | _ | f <;> simp at h <;> subst h <;> go_simp
theorem ty_fo74 : ∀ f off, ([0, 1] : List Nat)[f]? = some off → ∀ a w, (Instr.fieldAt 74 (.pointer (some a)) f).run Tryd.prog w = .ok (.pointer (some (a.add off))) w := by
  intro f off h a w
  rcases f with _ | _ | f <;> simp at h <;> subst h <;> go_simp
theorem ty_fo83 : ∀ f off, ([0, 1, 2, 3] : List Nat)[f]? = some off → ∀ a w, (Instr.fieldAt 83 (.pointer (some a)) f).run Tryd.prog w = .ok (.pointer (some (a.add off))) w := by
  intro f off h a w
  rcases f with _ | _ | _ | _ | f <;> simp at h <;> subst h <;> go_simp
theorem ty_fo84 : ∀ f off, ([0, 1, 2, 3] : List Nat)[f]? = some off → ∀ a w, (Instr.fieldAt 84 (.pointer (some a)) f).run Tryd.prog w = .ok (.pointer (some (a.add off))) w := by
  intro f off h a w
  rcases f with _ | _ | _ | _ | f <;> simp at h <;> subst h <;> go_simp
theorem ty_fo94 : ∀ f off, ([0, 1, 2, 3, 4, 5, 6, 7, 8, 9, 10] : List Nat)[f]? = some off → ∀ a w, (Instr.fieldAt 94 (.pointer (some a)) f).run Tryd.prog w = .ok (.pointer (some (a.add off))) w := by
  intro f off h a w
  rcases f with _ | _ | _ | _ | _ | _ | _ | _ | _ | _ | _ | f <;> simp at h <;> subst h <;> go_simp
theorem ty_fo95 : ∀ f off, ([0, 1, 2, 3, 4, 5, 6, 7, 8, 9, 10] : List Nat)[f]? = some off → ∀ a w, (Instr.fieldAt 95 (.pointer (some a)) f).run Tryd.prog w = .ok (.pointer (some (a.add off))) w := by
  intro f off h a w
  rcases f with _ | _ | _ | _ | _ | _ | _ | _ | _ | _ | _ | f <;> simp at h <;> subst h <;> go_simp
set_option maxRecDepth 10000 in
theorem ty_hfo : ∀ p ∈ ty_fo, ∀ f off, p.2[f]? = some off → ∀ a w, (Instr.fieldAt p.1 (.pointer (some a)) f).run Tryd.prog w = .ok (.pointer (some (a.add off))) w := by
  unfold ty_fo
  simp only [List.mem_cons, List.not_mem_nil, or_false, forall_eq_or_imp, forall_eq]
  exact ⟨ty_fo7,
    ty_fo8,
    ty_fo13,
    ty_fo14,
    ty_fo18,
    ty_fo19,
    ty_fo22,
    ty_fo23,
    ty_fo24,
    ty_fo25,
    ty_fo43,
    ty_fo44,
    ty_fo51,
    ty_fo52,
    ty_fo73,
    ty_fo74,
    ty_fo83,
    ty_fo84,
    ty_fo94,
    ty_fo95⟩
set_option maxRecDepth 10000 in
theorem ty_hel : ∀ p ∈ ty_el, Tryd.prog.underlying p.1 = some (.slice p.2) := by
  unfold ty_el
  simp only [List.mem_cons, List.not_mem_nil, or_false, forall_eq_or_imp, forall_eq]
  exact ⟨Tryd.underlying26,
    Tryd.underlying27,
    Tryd.underlying61⟩
set_option maxRecDepth 10000 in
theorem ty_hik : ∀ p ∈ ty_ik, Tryd.prog.underlying p.1 = some (.int p.2) := by
  unfold ty_ik
  simp only [List.mem_cons, List.not_mem_nil, or_false, forall_eq_or_imp, forall_eq]
  exact ⟨Tryd.underlying2,
    Tryd.underlying3,
    Tryd.underlying5,
    Tryd.underlying6,
    Tryd.underlying12,
    Tryd.underlying21,
    Tryd.underlying33,
    Tryd.underlying50,
    Tryd.underlying88,
    Tryd.underlying89,
    Tryd.underlying92,
    Tryd.underlying93⟩
set_option maxRecDepth 10000 in
theorem ty_hmp : ∀ p ∈ ty_mp, Tryd.prog.underlying p.1 = some (.map p.2.1 p.2.2) := by
  unfold ty_mp
  simp only [List.mem_cons, List.not_mem_nil, or_false, forall_eq_or_imp, forall_eq]
  exact Tryd.underlying55
theorem ty_mixed : Tryd.prog.follows .mixedOrders = true := by kernel_rfl
def T_ : Tys Tryd.prog := ⟨ty_mixed, ty_tk, ty_htk, ty_zs, ty_hzs, ty_fo, ty_hfo, ty_el, ty_hel, ty_ik, ty_hik, ty_mp, ty_hmp⟩
end Go.Proofs.YtaijhbliagjeaaaDoor
namespace Go.Proofs.YtaijhbliagjeaaaDoor
open Go.RowKit Go.Proofs.YtaijhbliagjeaaaDoorW.PrintWords
set_option linter.unusedVariables false
set_option linter.unusedSimpArgs false
end Go.Proofs.YtaijhbliagjeaaaDoor
