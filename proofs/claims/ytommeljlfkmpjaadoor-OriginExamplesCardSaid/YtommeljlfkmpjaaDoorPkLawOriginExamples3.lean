/- SX: a region that draws its order, each of whose operations answers the same whatever has  -/
import Derived.Test.YtommeljlfkmpjaaDoorPkLawOriginExamples2
import Derived.RangeFuncNested
import Derived.RangeFuncLeaves
import Derived.Deep.Upon
import Derived.Test.YtommeljlfkmpjaaDoorPkLawOriginExamples1
set_option linter.unusedVariables false
set_option linter.unusedSimpArgs false
namespace Go.Proofs.YtommeljlfkmpjaaDoor
open Go.RowKit
def depOf (o : Oper) : List Nat := (o.after.toList.filter (Region.binds .any)).map (·.on)
def dstv (ops : List Oper) (vs : List Value) (j : Nat) : Slots :=
 match nthD j ops, nth j vs with
 | some d, some v => [(d, v)]
 | _, _ => []
def flatS (ops : List Oper) (vs : List Value) : List Nat → Slots → Slots
 | [], σ => σ
 | j :: L, σ => dstv ops vs j ++ flatS ops vs L σ
theorem slot_app (k : Nat) : ∀ A B : Slots, slot k (A ++ B) = match slot k A with | some u => some u | none => slot k B
 | [], B => rfl
 | p :: A, B => by
  simp only [List.cons_append, slot]
  cases Nat.beq p.1 k with
  | true => rfl
  | false => exact slot_app k A B
theorem slot_dstv {ops : List Oper} {vs : List Value} {j k : Nat} {u : Value} : slot k (dstv ops vs j) = some u ↔ nthD j ops = some k ∧ nth j vs = some u := by
 unfold dstv
 cases h1 : nthD j ops with
 | none => simp [slot]
 | some d =>
  cases h2 : nth j vs with
  | none => simp [slot]
  | some v =>
   simp only [slot]
   cases hb : Nat.beq d k with
   | true =>
    have := Nat.eq_of_beq_eq_true hb
    subst this
    simp
   | false =>
    have : d ≠ k := fun e => by subst e; simp at hb
    simp [this]
theorem flat_a {ops : List Oper} {vs : List Value} {k : Nat} {u : Value} {σ : Slots} : ∀ L : List Nat, slot k (flatS ops vs L σ) = some u → (∃ j ∈ L, nthD j ops = some k ∧ nth j vs = some u) ∨ slot k σ = some u
 | [], h => .inr h
 | j :: L, h => by
  unfold flatS at h
  rw [slot_app] at h
  cases hd : slot k (dstv ops vs j) with
  | some v =>
   rw [hd] at h
   cases h
   exact .inl ⟨j, List.mem_cons_self .., slot_dstv.1 hd⟩
  | none =>
   rw [hd] at h
   rcases flat_a L h with ⟨i, hi, h'⟩ | h'
   ·exact .inl ⟨i, List.mem_cons_of_mem _ hi, h'⟩
   ·exact .inr h'
theorem flat_b {ops : List Oper} {vs : List Value} {σ : Slots} (hdis : ∀ i j k, nthD i ops = some k → nthD j ops = some k → i = j) {k j : Nat} {u : Value} (h1 : nthD j ops = some k) (h2 : nth j vs = some u) : ∀ L : List Nat, j ∈ L → slot k (flatS ops vs L σ) = some u
 | [], h => by cases h
 | i :: L, h => by
  unfold flatS
  rw [slot_app]
  cases hd : slot k (dstv ops vs i) with
  | some v =>
   obtain ⟨h3, h4⟩ := slot_dstv.1 hd
   have := hdis i j k h3 h1
   subst this
   rw [h2] at h4
   exact h4.symm ▸ rfl
  | none =>
   rcases List.mem_cons.1 h with rfl | h
   ·rw [slot_dstv.2 ⟨h1, h2⟩] at hd
    cases hd
   ·exact flat_b hdis h1 h2 L h
theorem flat_c {ops : List Oper} {vs : List Value} {σ : Slots} {k : Nat} (hk : ∀ j, nthD j ops ≠ some k) : ∀ L : List Nat, slot k (flatS ops vs L σ) = slot k σ
 | [] => rfl
 | i :: L => by
  unfold flatS
  rw [slot_app]
  cases hd : slot k (dstv ops vs i) with
  | some v => exact absurd (slot_dstv.1 hd).1 (hk i)
  | none => exact flat_c hk L
theorem SOK.le {N : Nat} {ds : List Deferred} {σ σ' : Slots} {a : Act} (h : SOK N ds σ a) (hs : ∀ k u, slot k σ' = some u → slot k σ = some u) : SOK N ds σ' a := ⟨h.sz, fun i v e => h.sl i v (hs i v e), h.df⟩
def OnePost (N : Nat) (ds : List Deferred) (w0 : World) (X : Nat → Prop) (η : Hp) (σ : Slots) : Exit → Act → World → Prop
 | .normal, a, w => SOK N ds σ a ∧ WOK w0 X η w
 | _, _, _ => False
theorem wpIn_swap {F : Fence} {n : Nat} {P : Program} {o : Oper} {a : Act} {w : World} {K : Act → World → Prop} {N : Nat} {ds : List Deferred} {w0 : World} {X : Nat → Prop} {η : Hp} {σ : Slots} {Q : Exit → Act → World → Prop}
  (h : o.wpIn F n P a w K (OnePost N ds w0 X η σ)) : o.wpIn F n P a w K Q := by
 unfold Oper.wpIn at *
 refine ⟨h.1, ?_⟩
 have hh := h.2
 generalize (o.semAt F.round a.eval).run P w = r at *
 cases r with
 | ok x w' =>
  cases x <;> simp only [Oper.uponIn] at hh ⊢ <;>
   first
    | exact hh
    | exact ⟨hh.1, CallsIn.mono hh.2 (fun e w'' he => by
      cases e with
      | returned v => exact he
      | panicked c => exact he.elim
      | outgrown => obtain ⟨_, _, h3⟩ := he; exact h3.elim)⟩
    | exact ⟨hh.1, RoundIn.mono hh.2 (fun e w'' he => by
      cases e with
      | returned v => exact he
      | panicked c => exact he.elim
      | outgrown => obtain ⟨_, _, h3⟩ := he; exact h3.elim)⟩
 | halt x w' => cases x <;> simp only [Oper.uponIn] at hh ⊢ <;> first | exact hh | exact hh.elim
section
variable {P : Program} {ro : Option Nat} {n N : Nat} {ds : List Deferred} {w0 : World} {X : Nat → Prop} {Q : Exit → Act → World → Prop} {σ : Slots} {η : Hp}
def DrawOps (P : Program) (ro : Option Nat) (n N : Nat) (ds : List Deferred) (w0 : World) (X : Nat → Prop) (ops : List Oper) (vs : List Value) (σ : Slots) (η : Hp) : List Oper → List Value → Prop
 | o :: r, v :: vr => (∀ τ, XO P ro n N ds w0 X (OnePost N ds w0 X η (putS o.dst v (flatS ops vs (depOf o) σ ++ τ))) ops (flatS ops vs (depOf o) σ ++ τ) η [o]) ∧ DrawOps P ro n N ds w0 X ops vs σ η r vr
 | _, _ => True
theorem drawOps_get {ops : List Oper} {vs : List Value} : ∀ (l : List Oper) (vl : List Value) (i : Nat) (o : Oper) (v : Value), DrawOps P ro n N ds w0 X ops vs σ η l vl → l[i]? = some o → nth i vl = some v →
  ∀ τ, XO P ro n N ds w0 X (OnePost N ds w0 X η (putS o.dst v (flatS ops vs (depOf o) σ ++ τ))) ops (flatS ops vs (depOf o) σ ++ τ) η [o]
 | [], _, i, o, v, _, h, _ => by simp at h
 | x :: r, [], i, o, v, _, _, h => by simp [nth] at h
 | x :: r, y :: vr, 0, o, v, h, h1, h2 => by
  simp [nth] at h1 h2
  subst h1 h2
  exact h.1
 | x :: r, y :: vr, i + 1, o, v, h, h1, h2 => drawOps_get r vr i o v h.2 (by simpa using h1) (by simpa [nth] using h2)
def dstsOf_ (ops : List Oper) : List Tmp := ops.filterMap (·.dst)
def freshB (σ : Slots) : List Tmp → Bool
 | [] => true
 | d :: r => (match slot d σ with | none => true | some _ => false) && freshB σ r
def distB : List Tmp → Bool
 | [] => true
 | d :: r => !(r.any fun x => Nat.beq d x) && distB r
def depsB : Nat → List Oper → Bool
 | _, [] => true
 | i, o :: r => (depOf o).all (fun j => Nat.blt j i) && depsB (i + 1) r
theorem depsB_get : ∀ (l : List Oper) (i k : Nat) (o : Oper), depsB i l = true → l[k]? = some o → ∀ j ∈ depOf o, j < i + k
 | [], i, k, o, _, h => by simp at h
 | x :: r, i, 0, o, h, h1 => by
  simp at h1
  subst h1
  simp only [depsB, Bool.and_eq_true, List.all_eq_true, Nat.blt_eq] at h
  intro j hj
  simpa using h.1 j hj
 | x :: r, i, k + 1, o, h, h1 => by
  simp only [depsB, Bool.and_eq_true] at h
  intro j hj
  have := depsB_get r (i + 1) k o h.2 (by simpa using h1) j hj
  omega
theorem distB_get : ∀ (l : List Oper) (i j k : Nat), distB (dstsOf_ l) = true → nthD i l = some k → nthD j l = some k → i = j
 | [], i, j, k, _, h, _ => by simp [nthD] at h
 | x :: r, 0, 0, k, _, _, _ => rfl
 | x :: r, 0, j + 1, k, hd, h1, h2 => by
  simp only [nthD] at h1 h2
  simp only [dstsOf_, List.filterMap_cons, h1, distB, Bool.and_eq_true, Bool.not_eq_true', List.any_eq_false] at hd
  rw [nthD_eq] at h2
  obtain ⟨o, ho, ho2⟩ := Option.bind_eq_some_iff.1 h2
  have := hd.1 k (List.mem_filterMap.2 ⟨o, List.mem_of_getElem? ho, ho2⟩)
  simp at this
 | x :: r, i + 1, 0, k, hd, h1, h2 => by
  simp only [nthD] at h1 h2
  simp only [dstsOf_, List.filterMap_cons, h2, distB, Bool.and_eq_true, Bool.not_eq_true', List.any_eq_false] at hd
  rw [nthD_eq] at h1
  obtain ⟨o, ho, ho2⟩ := Option.bind_eq_some_iff.1 h1
  have := hd.1 k (List.mem_filterMap.2 ⟨o, List.mem_of_getElem? ho, ho2⟩)
  simp at this
 | x :: r, i + 1, j + 1, k, hd, h1, h2 => by
  simp only [nthD] at h1 h2
  have hd' : distB (dstsOf_ r) = true := by
   simp only [dstsOf_, List.filterMap_cons] at hd ⊢
   cases hx : x.dst with
   | none => rw [hx] at hd; exact hd
   | some d => rw [hx] at hd; simp only [distB, Bool.and_eq_true] at hd; exact hd.2
  rw [distB_get r i j k hd' h1 h2]
theorem freshB_get : ∀ (l : List Tmp) (d : Tmp), freshB σ l = true → d ∈ l → slot d σ = none
 | [], d, _, h => by cases h
 | x :: r, d, h, hm => by
  simp only [freshB, Bool.and_eq_true] at h
  rcases List.mem_cons.1 hm with rfl | hm
  ·have := h.1
   split at this
   ·assumption
   ·cases this
  ·exact freshB_get r d h.2 hm
theorem filter_less {l : List Nat} {p q : Nat → Bool} (h : ∀ j ∈ l, q j = true → p j = true) {i : Nat} (hi : i ∈ l) (hp : p i = true) (hq : q i = false) : (l.filter q).length < (l.filter p).length := by
 induction l with
 | nil => cases hi
 | cons x r ih =>
  have hle : ∀ l : List Nat, (∀ j ∈ l, q j = true → p j = true) → (l.filter q).length ≤ (l.filter p).length := by
   intro l
   induction l with
   | nil => intro _; simp
   | cons y r ih =>
    intro h
    have := ih (fun j hj => h j (List.mem_cons_of_mem _ hj))
    have h1 := h y (List.mem_cons_self ..)
    cases hqy : q y <;> cases hpy : p y <;> simp_all
    omega
  rcases List.mem_cons.1 hi with rfl | hi
  ·have := hle r (fun j hj => h j (List.mem_cons_of_mem _ hj))
   simp only [List.filter_cons, hp, hq, ↓reduceIte, Bool.false_eq_true, List.length_cons]
   omega
  ·have := ih (fun j hj => h j (List.mem_cons_of_mem _ hj)) hi
   have h1 := h x (List.mem_cons_self ..)
   cases hqy : q x <;> cases hpy : p x <;> simp_all
   omega
theorem xc_draw {id : Nat} {ops : List Oper} (vs : List Value) (hmix : P.follows .mixedOrders = true) (hlen : Nat.beq vs.length ops.length = true) (hbind : true = true) (hdeps : depsB 0 ops = true) (hdist : distB (dstsOf_ ops) = true) (hfresh : freshB σ (dstsOf_ ops) = true)
  (hop : DrawOps P ro n N ds w0 X ops vs σ η ops vs) (hQ : XQ N ds w0 X Q .normal (flatS ops vs (List.range ops.length) σ) η) : XC P ro n N ds w0 X Q σ η (.region id ops.toArray true) := by
 have hl := Nat.eq_of_beq_eq_true hlen
 have hdis := fun i j k => distB_get ops i j k hdist
 have hfr : ∀ j d, nthD j ops = some d → slot d σ = none := fun j d h => by
  rw [nthD_eq] at h
  obtain ⟨o, ho, ho2⟩ := Option.bind_eq_some_iff.1 h
  exact freshB_get _ d hfresh (List.mem_filterMap.2 ⟨o, List.mem_of_getElem? ho, ho2⟩)
 have hnot : ∀ k u, slot k σ = some u → ∀ j, nthD j ops ≠ some k := fun k u h j e => by rw [hfr j k e] at h; cases h
 -- those of some are those of more
 have hmore : ∀ L M : List Nat, (∀ j ∈ L, j ∈ M) → ∀ k u, slot k (flatS ops vs L σ) = some u → slot k (flatS ops vs M σ) = some u := by
  intro L M h k u hk
  rcases flat_a L hk with ⟨j, hj, h1, h2⟩ | h1
  ·exact flat_b hdis h1 h2 M (h j hj)
  ·rw [flat_c (hnot k u h1) M]; exact h1
 intro a w ha hw
 refine wpIn_region_any hmix ?_
 have key : ∀ (fuel : Nat) (L : List Nat) (listed : Array Bool) (a : Act) (w : World), listed.size = ops.length → (∀ j, listed.getD j false = true ↔ j ∈ L) → (∀ j ∈ L, j < ops.length) → ((List.range ops.length).filter fun j => !listed.getD j false).length ≤ fuel → SOK N ds (flatS ops vs L σ) a → WOK w0 X η w →
   wpAnyIn (wideR ro) n P .any ops.toArray Q fuel listed a w := by
  intro fuel
  induction fuel with
  | zero =>
   intro L listed a w hsz hL hLb hcnt ha hw
   have hall : ∀ j, j < ops.length → j ∈ L := by
    intro j hj
    have h0 := List.length_eq_zero_iff.1 (Nat.le_zero.1 hcnt)
    rw [List.filter_eq_nil_iff] at h0
    have := h0 j (List.mem_range.2 hj)
    exact (hL j).1 (by simpa using this)
   refine ⟨?_, hQ a w (ha.le (hmore _ _ (fun j hj => hall j (List.mem_range.1 hj)))) hw⟩
   apply List.eq_nil_iff_forall_not_mem.2
   intro j hj
   obtain ⟨h1, o, h2, _⟩ := mem_ready.1 hj
   have hlt : j < ops.length := by have := (Array.getElem?_eq_some_iff.1 h2).1; simpa using this
   have h3 := (hL j).2 (hall j hlt)
   rw [Array.getD_eq_getD_getElem?] at h1 h3
   rw [Array.getElem?_eq_getElem (by rw [hsz]; exact hlt)] at h1 h3
   simp at h1 h3
   rw [h1] at h3
   cases h3
  | succ fuel ih =>
   intro L listed a w hsz hL hLb hcnt ha hw
   refine ⟨fun hnil => ?_, fun i hi => ?_⟩
   ·-- nothing is ready: all are listed
    have hall : ∀ k j, j ≤ k → j < ops.length → j ∈ L := by
     intro k
     induction k with
     | zero =>
      intro j hj hlt
      by_cases hm : j ∈ L
      ·exact hm
      ·exfalso
       have : j ∈ Region.ready .any ops.toArray listed := by
        refine mem_ready.2 ⟨?_, ops[j], by simp [List.getElem?_eq_getElem hlt], ?_⟩
        ·have h3 : listed.getD j false ≠ true := fun q => hm ((hL j).1 q)
         rw [Array.getD_eq_getD_getElem?, Array.getElem?_eq_getElem (by rw [hsz]; exact hlt)] at h3 ⊢
         simpa using h3
        ·intro e he hbd
         have h4 := depsB_get ops 0 j ops[j] hdeps (List.getElem?_eq_getElem hlt) e.on (List.mem_map.2 ⟨e, List.mem_filter.2 ⟨by simpa using he, hbd⟩, rfl⟩)
         omega
       rw [hnil] at this
       cases this
     | succ k ihk =>
      intro j hj hlt
      by_cases hjk : j ≤ k
      ·exact ihk j hjk hlt
      by_cases hm : j ∈ L
      ·exact hm
      ·exfalso
       have : j ∈ Region.ready .any ops.toArray listed := by
        refine mem_ready.2 ⟨?_, ops[j], by simp [List.getElem?_eq_getElem hlt], ?_⟩
        ·have h3 : listed.getD j false ≠ true := fun q => hm ((hL j).1 q)
         rw [Array.getD_eq_getD_getElem?, Array.getElem?_eq_getElem (by rw [hsz]; exact hlt)] at h3 ⊢
         simpa using h3
        ·intro e he hbd
         have h4 := depsB_get ops 0 j ops[j] hdeps (List.getElem?_eq_getElem hlt) e.on (List.mem_map.2 ⟨e, List.mem_filter.2 ⟨by simpa using he, hbd⟩, rfl⟩)
         exact (hL e.on).2 (ihk e.on (by omega) (by omega))
       rw [hnil] at this
       cases this
    exact hQ a w (ha.le (hmore _ _ (fun j hj => hall j j (Nat.le_refl _) (List.mem_range.1 hj)))) hw
   ·obtain ⟨h1, o, h2, h3⟩ := mem_ready.1 hi
    have hlt : i < ops.length := by have := (Array.getElem?_eq_some_iff.1 h2).1; simpa using this
    have ho : ops[i]? = some o := by simpa using h2
    have hio : i < vs.length := by rw [hl]; exact hlt
    have hv : nth i vs = some vs[i] := by rw [nth_eq, List.getElem?_eq_getElem hio]
    generalize vs[i] = v at hv
    have hnl : ¬ i ∈ L := fun q => by
     have h4 := (hL i).2 q
     rw [Array.getD_eq_getD_getElem?, Array.getElem?_eq_getElem (by rw [hsz]; exact hlt)] at h1 h4
     simp at h1 h4
     rw [h1] at h4
     cases h4
    have hdL : ∀ j ∈ depOf o, j ∈ L := by
     intro j hj
     obtain ⟨e, he, rfl⟩ := List.mem_map.1 hj
     obtain ⟨he, hb⟩ := List.mem_filter.1 he
     exact (hL e.on).1 (h3 e (by simpa using he) hb)
    have hcons := hmore (depOf o) L hdL
    have hs : SOK N ds (flatS ops vs (depOf o) σ ++ flatS ops vs L σ) a := ha.le fun k u hk => by
     rw [slot_app] at hk
     cases hd : slot k (flatS ops vs (depOf o) σ) with
     | some x => rw [hd] at hk; cases hk; exact hcons k _ hd
     | none => rw [hd] at hk; exact hk
    have hrun := drawOps_get ops vs i o v hop ho hv (flatS ops vs L σ) a w hs hw
    have hnext : ∀ a' w', OnePost N ds w0 X η (putS o.dst v (flatS ops vs (depOf o) σ ++ flatS ops vs L σ)) .normal a' w' → wpAnyIn (wideR ro) n P .any ops.toArray Q fuel (listed.setIfInBounds i true) a' w' := by
     rintro a' w' ⟨ha', hw'⟩
     refine ih (i :: L) _ a' w' (by simp [hsz]) ?_ ?_ ?_ (ha'.le ?_) hw'
     ·intro j
      rw [Array.getD_eq_getD_getElem?]
      by_cases e : i = j
      ·subst e
       rw [Array.getElem?_setIfInBounds_self, if_pos (by rw [hsz]; exact hlt)]
       simp
      ·rw [Array.getElem?_setIfInBounds_ne e, ← Array.getD_eq_getD_getElem?, hL j]
       simp [show ¬ j = i from fun q => e q.symm]
     ·intro j hj
      rcases List.mem_cons.1 hj with rfl | hj
      ·exact hlt
      ·exact hLb j hj
     ·have : ((List.range ops.length).filter fun j => !(listed.setIfInBounds i true).getD j false).length < ((List.range ops.length).filter fun j => !listed.getD j false).length := by
       refine filter_less (i := i) ?_ (List.mem_range.2 hlt) ?_ ?_
       ·intro j hj hq
        by_cases e : i = j
        ·subst e
         rw [Array.getD_eq_getD_getElem?, Array.getElem?_setIfInBounds_self, if_pos (by rw [hsz]; exact hlt)] at hq
         simp at hq
        ·rw [Array.getD_eq_getD_getElem?, Array.getElem?_setIfInBounds_ne e, ← Array.getD_eq_getD_getElem?] at hq
         exact hq
       ·have h4 : listed.getD i false ≠ true := fun q => hnl ((hL i).1 q)
        simpa using h4
       ·rw [Array.getD_eq_getD_getElem?, Array.getElem?_setIfInBounds_self, if_pos (by rw [hsz]; exact hlt)]
        simp
      omega
     ·intro k u hk
      unfold flatS at hk
      rw [slot_app] at hk
      cases hd : slot k (dstv ops vs i) with
      | some x =>
       rw [hd] at hk
       cases hk
       obtain ⟨h5, h6⟩ := slot_dstv.1 hd
       rw [hv] at h6
       cases h6
       rw [nthD_eq, ho] at h5
       simp only [Option.bind_some] at h5
       rw [h5]
       unfold putS slot
       simp
      | none =>
       rw [hd] at hk
       have h7 : slot k (flatS ops vs (depOf o) σ ++ flatS ops vs L σ) = some u := by
        rw [slot_app]
        cases hd2 : slot k (flatS ops vs (depOf o) σ) with
        | some x => have hk' : slot k (flatS ops vs L σ) = some u := hk; have := hcons k x hd2; rw [hk'] at this; exact this.symm
        | none => exact hk
       cases hdo : o.dst with
       | none => exact h7
       | some d =>
        unfold putS slot
        have hne : Nat.beq d k = false := by
         cases hb : Nat.beq d k with
         | false => rfl
         | true =>
          exfalso
          have e := Nat.eq_of_beq_eq_true hb
          subst e
          rw [slot_dstv.2 ⟨by rw [nthD_eq, ho]; exact hdo, hv⟩] at hd
          cases hd
        simp only [hne, cond_false]
        exact h7
    unfold wpOpIn
    simp only [h2]
    unfold wpListIn at hrun
    split at hrun
    ·rename_i hw1
     rw [if_pos hw1]
     exact wpIn_swap (Oper.wpIn_mono (fun a' w' h => hnext a' w' h) hrun)
    ·rename_i hw1
     rw [if_neg hw1]
     exact ⟨fun _ _ => trivial, hnext _ _ hrun.2⟩
 refine key _ [] _ a w.drew (by simp) (fun j => ?_) (fun j hj => by cases hj) ?_ ha hw.drew
 ·constructor
  ·intro h
   rw [Array.getD_eq_getD_getElem?, Array.getElem?_replicate] at h
   split at h <;> simp at h
  ·intro h
   cases h
 ·have := List.length_filter_le (fun j => !(Array.replicate ops.toArray.size false).getD j false) (List.range ops.length)
  simpa using this
end
structure BOK (η : Hp) (w : World) : Prop where
 bl : ∀ e ∈ η, ∃ o, w.heap[e.1]? = some o ∧ e.2.2 o
 nd : (η.map (·.1)).Nodup
theorem WOK.bok {w0 : World} {X : Nat → Prop} {η η' : Hp} {w : World} (h : WOK w0 X η w) (hs : List.Sublist η' η) : BOK η' w := ⟨(h.sub hs).bl, (h.sub hs).nd⟩
def XW (η : Hp) : Nat → Prop := fun k => ∃ e ∈ η, e.2.1 = true ∧ e.1 = k
theorem BOK.wok {η : Hp} {w : World} (h : BOK η w) : WOK w (XW η) η w := ⟨Kx.refl _ w, h.bl, h.nd, fun e he hw => .inr ⟨e, he, hw, rfl⟩⟩
theorem WOK.wok {w0 : World} {X : Nat → Prop} {η : Hp} {w : World} (h : WOK w0 X η w) : WOK w (XW η) η w := (h.bok (List.Sublist.refl _)).wok
theorem WOK.back {w0 w1 : World} {X : Nat → Prop} {η η' : Hp} {w : World} (h0 : WOK w0 X η w1) (h : WOK w1 (XW η) η' w) : WOK w0 X η' w := by
 have hx : ∀ k, XW η k → w0.heap.size ≤ k ∨ X k := fun k ⟨e, he, hw, hk⟩ => hk ▸ h0.ow e he hw
 refine ⟨⟨h.kx.os.trans h0.kx.os, h.kx.tape.trans h0.kx.tape, h.kx.output.trans h0.kx.output, Nat.le_trans h0.kx.size h.kx.size, fun k hk hnx => ?_⟩, h.bl, h.nd, fun e he hw => ?_⟩
 ·refine (h.kx.block k (Nat.lt_of_lt_of_le hk h0.kx.size) (fun q => ?_)).trans (h0.kx.block k hk hnx)
  rcases hx k q with h3 | h3
  ·exact absurd hk (Nat.not_lt.2 h3)
  ·exact hnx h3
 ·rcases h.ow e he hw with h3 | h3
  ·exact .inl (Nat.le_trans h0.kx.size h3)
  ·exact hx _ h3
def SameB (wB w : World) : Prop := ∀ k, k < wB.heap.size → w.heap[k]? = wB.heap[k]?
theorem SameB.of_below {wB w : World} (h : Below wB.heap.size wB w) : SameB wB w := h.block
theorem SameB.kx {wB w w1 : World} {X : Nat → Prop} (h : SameB wB w) (hs : wB.heap.size ≤ w.heap.size) (k : Kx X w w1) (hX : ∀ b, X b → wB.heap.size ≤ b) : SameB wB w1 := fun i hi => (k.block i (Nat.lt_of_lt_of_le hi hs) (fun q => absurd hi (Nat.not_lt.2 (hX i q)))).trans (h i hi)
theorem SameB.cell {wB w : World} (h : SameB wB w) {p : Addr} {v : Value} (hc : wB.cell? p = some v) : w.cell? p = some v := by
 have hb := World.block_lt_of_cell? wB p hc
 unfold World.cell? at hc ⊢
 rw [h _ hb]
 exact hc
theorem RO.same {wB w : World} {X : Nat → Prop} {p : Addr} {cs : List Value} (h : RO wB XNone p cs) (hs : SameB wB w) (hX : ∀ b, X b → wB.heap.size ≤ b) : RO w X p cs := fun j v hj => by
 have h1 := (h j v hj).1
 exact ⟨hs.cell h1, fun q => absurd (World.block_lt_of_cell? wB _ h1) (Nat.not_lt.2 (hX _ q))⟩
def KpK (K : Nat → Prop) (n0 : Nat) (W W' : World) : Prop := (∀ k, K k → W'.heap[k]? = W.heap[k]?) ∧ W.heap.size ≤ W'.heap.size ∧ (∀ k o, n0 ≤ k → W.heap[k]? = some o → o.isWalk = true → W'.heap[k]? = some o)
theorem KpK.refl (K : Nat → Prop) (n0 : Nat) (W : World) : KpK K n0 W W := ⟨fun _ _ => rfl, Nat.le_refl _, fun _ _ _ h _ => h⟩
theorem KpK.trans {K : Nat → Prop} {n0 : Nat} {A B C : World} (h : KpK K n0 A B) (k : KpK K n0 B C) : KpK K n0 A C := ⟨fun i hi => (k.1 i hi).trans (h.1 i hi), Nat.le_trans h.2.1 k.2.1, fun i o hi ho hw => k.2.2 i o hi (h.2.2 i o hi ho hw) hw⟩
section
variable {P : Program} {ro : Option Nat} {n N : Nat} {ds : List Deferred} {w0 : World} {X : Nat → Prop} {Q : Exit → Act → World → Prop} {ops : List Oper} {σ : Slots} {η : Hp} {rest : List Oper}
variable {d : Option Tmp} {ty : TypeId} {pos : String} {aft : Array Edge} {g : Option (Nat × Bool)}
theorem xo_yield {l : Nat} {fo : Operand} {xs : List Operand} {ats : Array TypeId} {vs : List Value} (hg : gS ops σ g = some true) (hf : ev σ fo = some (.func (.yield l) #[] #[])) (ha_ : evs σ xs = some vs) (hN : dstOK N d = true)
  (hy : ∀ w, WOK w0 X η w → YieldAt (wideR ro) (n - 1) P l vs.toArray w fun e W' => ∃ v η' w1 X1, e = .returned v ∧ WOK w1 X1 η' W' ∧ XO P ro n N ds w1 X1 Q ops (putS d v σ) η' rest) :
  XO P ro n N ds w0 X Q ops σ η (⟨d, .call { callee := .value fo, args := xs.toArray, argTypes := ats }, ty, pos, aft, g⟩ :: rest) := by
 intro a w ha hw
 unfold wpListIn
 rw [if_pos (wanted_of ha (o := ⟨d, .call { callee := .value fo, args := xs.toArray, argTypes := ats }, ty, pos, aft, g⟩) hg)]
 refine ⟨fun _ _ => trivial, ?_⟩
 rw [show (wideR ro).round = ro from rfl, Oper.semAt_eq ro _ _ (fun c e => by cases e)]
 obtain ⟨fn, tmps, assign, body, hr, hR⟩ := hy w hw
 have hrun : (execOp a.eval ⟨d, .call { callee := .value fo, args := xs.toArray, argTypes := ats }, ty, pos, aft, g⟩).run P w = .ok (.round l fn tmps assign body) w := by
  simp [execOp, resolve, Deferred.ofValue, invoke, ha.ev hf, ha.evs ha_, hr]
 rw [hrun]
 refine ⟨(fun h => by cases h), hR.mono ?_⟩
 rintro e w' ⟨v, η', w1, X1, rfl, hw', hk⟩
 exact hk _ _ (ha.put hN v) hw'
theorem xc_loopJ {γ : Type} {c : Code} (C : γ → Prop) (S : γ → Slots) (H : γ → Hp) (J : γ → World → Prop) (μ : γ → Nat) (g0 : γ) (hC : C g0) (hs : subS (S g0) σ) (h0 : ∀ w, WOK w0 X η w → BOK (H g0) w ∧ J g0 w)
  (round : ∀ g, C g → ∀ w, BOK (H g) w → J g w → XC P ro n N ds w (XW (H g)) (Exit.then (fun a w => ∃ k, k < μ g ∧ ∃ g', C g' ∧ μ g' = k ∧ SOK N ds (S g') a ∧ BOK (H g') w ∧ J g' w) Q) (S g) (H g) c) : XC P ro n N ds w0 X Q σ η (.loop c) := by
 intro a w ha hw
 obtain ⟨hb, hj⟩ := h0 w hw
 refine wpIn_loop_ghost (fun k a w => ∃ g', C g' ∧ μ g' = k ∧ SOK N ds (S g') a ∧ BOK (H g') w ∧ J g' w) (μ g0) ⟨g0, hC, rfl, ha.sub hs, hb, hj⟩ ?_
 rintro k a w ⟨g, hg, rfl, h1, h2, h3⟩
 exact round g hg w h2 h3 a w h1 h2.wok
theorem xq_againJ {γ : Type} (C : γ → Prop) (S : γ → Slots) (H : γ → Hp) (J : γ → World → Prop) (μ : γ → Nat) (m : Nat) (g' : γ) (hC : C g') (hm : μ g' < m) (hs : subS (S g') σ) (h : ∀ w, WOK w0 X η w → BOK (H g') w ∧ J g' w) :
  XQ N ds w0 X (Exit.then (fun a w => ∃ k, k < m ∧ ∃ g', C g' ∧ μ g' = k ∧ SOK N ds (S g') a ∧ BOK (H g') w ∧ J g' w) Q) .normal σ η :=
 fun a w ha hw => ⟨_, hm, g', hC, rfl, ha.sub hs, (h w hw).1, (h w hw).2⟩
end
theorem x_iter {P : Program} {g : Nat} {fn : Func} {c : Code} {cs : List Value} {m : Nat} {W : World} {R : Ending → World → Prop} {X : Nat → Prop} {η : Hp} {l : Nat} (hf : P.funcs[g]? = some fn) (hb : fn.body = some c) {N : Nat} (hn : fn.ntmps = N) (hl : Nat.ble (cs.length + 1) N = true) (hw : WOK W X η W)
  (h : XC P none m N [] W X (bodyPost P fn R) (argS 0 (.func (.yield l) #[] #[] :: cs)) η c) : CallsIn Fence.wide m P g (#[.func (.yield l) #[] #[]] ++ cs.toArray) W R := by
 subst hn
 have := callsIn_of_wp (F := Fence.wide) (n := m) (args := (.func (.yield l) #[] #[] :: cs).toArray) hf hb trivial (h _ W (SOK.args _ _ (by simpa using Nat.le_of_ble_eq_true hl)) hw) rfl
 simpa using this
def mark_ (D : Nat) : Deferred := { target := .collected D, args := #[] }
def hdef : HP := fun o => o = .deferred (some [])
section
variable {P : Program} {n N : Nat} {ds : List Deferred} {w0 : World} {Q : Exit → Act → World → Prop} {σ : Slots} {η : Hp}
def RoundPost (N : Nat) (W : World) (η : Hp) (I : World → Prop) : Exit → Act → World → Prop
 | .normal, _, w => I w
 | _, _, _ => False
end
theorem x_callsM {P : Program} {f : FuncId} {fn : Func} {c : Code} {vs : List Value} {w : World} {R : Ending → World → Prop} {η : Hp} (n : Nat) (hf : P.funcs[f]? = some fn) (hb : fn.body = some c) {N : Nat} (hn : fn.ntmps = N) (hl : Nat.ble vs.length N = true) (hw : WOK w XNone η w)
  (h : XC P none n N [] w XNone (bodyPostM Fence.wide n P fn R) (argS 0 vs) η c) : Calls P f vs.toArray w R := by
 subst hn
 exact (callsIn_wide (n := n)).1 (callsIn_of_wp_marks hf hb trivial (h _ w (SOK.args vs _ (Nat.le_of_ble_eq_true hl)) hw) rfl)
theorem below_takeD {w0 w : World} {D : Nat} {o : Obj} (h : Below w0.heap.size w0 w) (hD : w0.heap.size ≤ D) : Below w0.heap.size w0 (w.putObj D o) :=
 ⟨h.os, h.tape, h.output, by simp; exact h.size, fun k hk => (World.putObj_heap_other (by omega)).trans (h.block k hk)⟩
section
variable {P : Program} {n N : Nat} {w0 : World} {fn : Func} {R : Ending → World → Prop} {σ : Slots} {η : Hp}
theorem xq_retM1 {t : Tmp} {v : Value} {D : Nat} (hf : fn.results = #[.tmp t]) (hv : slot t σ = some v) (h : ∀ w, WOK w0 XNone η w → R (.returned v) w) : XQ N [mark_ D] w0 XNone (bodyPostM Fence.wide n P fn R) .ret σ ((D, true, hdef) :: η) := by
 intro a w ha hw
 obtain ⟨o, hD, ho⟩ := hw.bl (D, true, hdef) (List.mem_cons_self ..)
 rw [show o = _ from ho] at hD
 show LeavesInM _ _ _ _ _ _ a.defers _ w
 rw [ha.df]
 refine ⟨by simp, .inl ⟨D, _, rfl, run_takeDeferred hD, ?_⟩⟩
 have hw' : WOK w0 XNone η (w.putObj D (.deferred none)) := by
  have h1 : D ∉ η.map (·.1) := by have := hw.nd; simp only [List.map_cons, List.nodup_cons] at this; exact this.1
  have h2 := hw.sub (List.sublist_cons_self _ _)
  have h3 : w0.heap.size ≤ D := by
   rcases hw.ow (D, true, hdef) (List.mem_cons_self ..) rfl with h4 | h4
   ·exact h4
   ·exact h4.elim
  refine ⟨Kx.of_below (below_takeD h2.kx.below h3), ?_, h2.nd, h2.ow⟩
  intro e he
  obtain ⟨o, h4, h5⟩ := h2.bl e he
  exact ⟨o, (World.putObj_heap_other (fun q => h1 (List.mem_map.2 ⟨e, he, q⟩))).trans h4, h5⟩
 exact ⟨v, by rw [results_tmp hf, getD_of (ha.sl _ _ hv)], h _ hw'⟩
end
end Go.Proofs.YtommeljlfkmpjaaDoor
namespace Go.Proofs.YtommeljlfkmpjaaDoor
open Go.RowKit
section
variable {P : Program} {ro : Option Nat} {n N : Nat} {ds : List Deferred} {w0 : World} {X : Nat → Prop} {Q : Exit → Act → World → Prop} {σ : Slots} {η : Hp} {c : Code}
theorem xc_know {φ : Prop} (h : ∀ w, WOK w0 X η w → φ) (k : φ → XC P ro n N ds w0 X Q σ η c) : XC P ro n N ds w0 X Q σ η c := fun a w ha hw => k (h w hw) a w ha hw
theorem WOK.own {w : World} (h : WOK w0 XNone η w) {b : Nat} {φ : HP} (he : (b, true, φ) ∈ η) : w0.heap.size ≤ b := by
 rcases h.ow _ he rfl with h1 | h1
 ·exact h1
 ·exact h1.elim
end
theorem Kx.grown {X : Nat → Prop} {w0 w : World} {row : Option Nat} (h : Kx X w0 w) (hr : ∀ k, X k → row = some k) : w0.grownBy w row := ⟨h.os, h.tape, h.output, h.size, fun k hk hne => h.block k hk (fun q => hne (hr k q).symm)⟩
def RowAt (e : TypeId) (base : Nat) (w : World) (r : RowR) (xs : List Int) : Prop := (r = none → xs = []) ∧ ∀ p, r = some p → base ≤ p.1 ∧ ∃ o, w.heap[p.1]? = some o ∧ orow e 1 xs.length p.2 (xs.map (.int .i64)) o
end Go.Proofs.YtommeljlfkmpjaaDoor
namespace Go.Proofs.YtommeljlfkmpjaaDoor
open Go.RowKit
theorem WOK.row {w0 : World} {X : Nat → Prop} {η : Hp} {w w' : World} (h : WOK w0 X η w) (hb : Below w.heap.size w w') {e : TypeId} {r : RowR} {xs : List Int} (hr : RowAt e w.heap.size w' r xs) : WOK w0 X (hpR e 1 r xs.length (xs.map (.int .i64)) ++ η) w' := by
 cases r with
 | none => exact h.below hb
 | some p =>
  obtain ⟨h1, o, h2, h3⟩ := hr.2 p rfl
  exact h.more hb h1 h2 h3
theorem RowAt.of {w0 : World} {η : Hp} {w : World} {e : TypeId} {r : RowR} {xs : List Int} (h : WOK w0 XNone (hpR e 1 r xs.length (xs.map (.int .i64)) ++ η) w) (h0 : r = none → xs = []) : RowAt e w0.heap.size w r xs := by
 refine ⟨h0, fun p hp => ?_⟩
 subst hp
 exact ⟨h.own (List.Mem.head _), h.bl (p.1, true, orow e 1 xs.length p.2 (xs.map (.int .i64))) (List.Mem.head _)⟩
theorem RowAt.below {e : TypeId} {base : Nat} {w w' : World} {r : RowR} {xs : List Int} (h : RowAt e base w r xs) (hb : Below w.heap.size w w') : RowAt e base w' r xs := by
 refine ⟨h.1, fun p hp => ?_⟩
 obtain ⟨h1, o, h2, h3⟩ := h.2 p hp
 exact ⟨h1, o, (hb.block _ (Array.getElem?_eq_some_iff.1 h2).1).trans h2, h3⟩
theorem RowAt.mono {e : TypeId} {base base' : Nat} {w : World} {r : RowR} {xs : List Int} (h : RowAt e base w r xs) (hb : base' ≤ base) : RowAt e base' w r xs := ⟨h.1, fun p hp => ⟨Nat.le_trans hb (h.2 p hp).1, (h.2 p hp).2⟩⟩
end Go.Proofs.YtommeljlfkmpjaaDoor
namespace Go.Proofs.YtommeljlfkmpjaaDoor
open Go.RowKit
theorem WOK.updK {w0 : World} {X : Nat → Prop} {η η' : Hp} {w w' : World} {b : Nat} {φ' : HP} (h : WOK w0 X η w) (hU : Upd b φ' η η') (k : Kx (fun q => q = b) w w') {o : Obj} (ho : w'.heap[b]? = some o) (hφ : φ' o) : WOK w0 X η' w' := by
 obtain ⟨φ, hb⟩ := hU.has
 have hown := h.ow _ hb rfl
 refine ⟨⟨k.os.trans h.kx.os, k.tape.trans h.kx.tape, k.output.trans h.kx.output, Nat.le_trans h.kx.size k.size, fun i hi hx => ?_⟩, ?_, by rw [hU.keys]; exact h.nd, ?_⟩
 ·refine (k.block i (Nat.lt_of_lt_of_le hi h.kx.size) (fun e => ?_)).trans (h.kx.block i hi hx)
  subst e
  rcases hown with h2 | h2
  ·exact absurd hi (Nat.not_lt.2 h2)
  ·exact hx h2
 ·intro e he
  rcases hU.memNe h.nd e he with rfl | ⟨he, hne⟩
  ·exact ⟨o, ho, hφ⟩
  ·obtain ⟨o', h2, h3⟩ := h.bl e he
   exact ⟨o', (k.block _ (h.lt he) hne).trans h2, h3⟩
 ·intro e he hw
  rcases hU.mem e he with rfl | he
  ·exact hown
  ·exact h.ow e he hw
end Go.Proofs.YtommeljlfkmpjaaDoor
namespace Go.Proofs.YtommeljlfkmpjaaDoor
open Go.RowKit
theorem WOK.more2 {w0 : World} {X : Nat → Prop} {η : Hp} {w w' : World} (h : WOK w0 X η w) (hb : Below w.heap.size w w') {b c : Nat} {o o2 : Obj} {φ φ2 : HP} (hbb : w.heap.size ≤ b) (hcc : w.heap.size ≤ c) (hne : b ≠ c) (ho : w'.heap[b]? = some o) (ho2 : w'.heap[c]? = some o2) (hφ : φ o) (hφ2 : φ2 o2) : WOK w0 X ((c, true, φ2) :: (b, true, φ) :: η) w' := by
 have h1 := h.more hb hbb ho hφ
 refine ⟨h1.kx, ?_, ?_, ?_⟩
 ·intro e he
  rcases List.mem_cons.1 he with rfl | he
  ·exact ⟨o2, ho2, hφ2⟩
  ·exact h1.bl e he
 ·simp only [List.map_cons, List.nodup_cons, List.mem_cons, not_or]
  refine ⟨⟨fun e => hne e.symm, fun hm => ?_⟩, ?_⟩
  ·obtain ⟨e, he, h2⟩ := List.mem_map.1 hm
   have := h.lt he
   omega
  ·have := h1.nd
   simpa only [List.map_cons, List.nodup_cons] using this
 ·intro e he hw
  rcases List.mem_cons.1 he with rfl | he
  ·exact .inl (Nat.le_trans h.kx.size hcc)
  ·exact h1.ow e he hw
section
variable {P : Program} {ro : Option Nat} {n N : Nat} {ds : List Deferred} {w0 : World} {X : Nat → Prop} {Q : Exit → Act → World → Prop} {σ : Slots} {η : Hp}
theorem DrawOps.nil {ops : List Oper} {vs : List Value} : DrawOps P ro n N ds w0 X ops vs σ η [] [] := trivial
theorem DrawOps.cons {ops : List Oper} {vs : List Value} {o : Oper} {r : List Oper} {v : Value} {vr : List Value} (h : ∀ τ, XO P ro n N ds w0 X (OnePost N ds w0 X η (putS o.dst v (flatS ops vs (depOf o) σ ++ τ))) ops (flatS ops vs (depOf o) σ ++ τ) η [o])
  (t : DrawOps P ro n N ds w0 X ops vs σ η r vr) : DrawOps P ro n N ds w0 X ops vs σ η (o :: r) (v :: vr) := ⟨h, t⟩
theorem xc_drawN {id : Nat} {ops : List Oper} {vs : List Value} (hmix : P.follows .mixedOrders = true) (hbind : true = true) (hdeps : depsB 0 ops = true) (hdist : distB (dstsOf_ ops) = true) (hfresh : freshB σ (dstsOf_ ops) = true)
  (hop : DrawOps P ro n N ds w0 X ops vs σ η ops vs) (hlen : Nat.beq vs.length ops.length = true) (hQ : XQ N ds w0 X Q .normal (flatS ops vs (List.range ops.length) σ) η) : XC P ro n N ds w0 X Q σ η (.region id ops.toArray true) :=
 xc_draw vs hmix hlen hbind hdeps hdist hfresh hop hQ
theorem xo_fin {ops : List Oper} {d : Option Tmp} {u v : Value} (e : u = v) : XO P ro n N ds w0 X (OnePost N ds w0 X η (putS d v σ)) ops (putS d u σ) η [] := by
 subst e
 exact xo_nil fun a w ha hw => ⟨ha, hw⟩
theorem xoF {ops : List Oper} {d : Option Tmp} {u v : Value} (e : u = v := by exact rfl) : XO P ro n N ds w0 X (OnePost N ds w0 X η (putS d v σ)) ops (putS d u σ) η [] := xo_fin e
end
theorem RO.fld {w : World} {X : Nat → Prop} {p : Addr} {cs : List Value} {j : Nat} {v : Value} (h : RO w X p cs) (hj : cs[j]? = some v) : RO w X (p.add j) [v] := fun i u hi => by
 cases i with
 | zero => simp at hi; subst hi; rw [Addr.add_zero']; exact h j _ hj
 | succ i => simp at hi
section
variable {P : Program} {ro : Option Nat} {n N : Nat} {ds : List Deferred} {w0 : World} {X : Nat → Prop} {Q : Exit → Act → World → Prop} {σ : Slots} {η : Hp} {ops rest : List Oper} {d : Option Tmp} {ty : TypeId} {pos : String} {aft : Array Edge} {g : Option (Nat × Bool)}
theorem xo_bs0 (T : Tys P) (sz : Nat) {t e : TypeId} {k0 : Nat} (hg : gS ops σ g = some true) (ht : look t T.el = some e) (hk : look e T.tk = some k0) (hN : dstOK N d = true)
  (h : ∀ b, XO P ro n N ds w0 X Q ops (putS d (.slice (some ⟨b, 0, none⟩) 0 0) σ) ((b, true, orow e sz 0 0 []) :: η) rest) : XO P ro n N ds w0 X Q ops σ η (⟨d, .buildSlice t 0 #[], ty, pos, aft, g⟩ :: rest) :=
 xo_base rfl hg fun a w ha hw => by
  have h1 := T.hel _ (look_mem ht)
  obtain ⟨h2, h3⟩ := T.htk _ (look_mem hk)
  simp only at h1 h3
  refine ⟨_, w.alloc (.cells #[] e), .slice (some ⟨w.heap.size, 0, none⟩) 0 0, ?_, .inl rfl, h _ _ _ (ha.put hN _) (hw.alloc _ _ ⟨#[], rfl, Nat.le_refl _, by simp [maxLen], by simp, by simp⟩)⟩
  simp [execOp, Instr.buildSlice, run_underlying h1, h3 w, Instr.fill, newRow, Array.range_zero']
theorem xo_appN (T : TysR P) {t e : TypeId} {s x : Operand} {z : Value} {sz by_ m k c : Nat} {A : Option Addr} {r : RowR} {xs news : List Value} {η0 : Hp} (hg : gS ops σ g = some true) (ht : look t T.el = some e) (hi : look e T.inf = some (z, sz, by_)) (hzs : z.cells.toList.length = sz) (hsz : Nat.blt 0 sz = true)
  (hs : ev σ s = some (valR r m)) (hx : ev σ x = some (.slice A k c)) (hη : η = hpR e sz r m xs ++ η0) (hl : xs.length = m * sz) (hn : news.length = k * sz) (hA : A = none → k = 0) (hnews : ∀ p, A = some p → ∀ w, WOK w0 X η w → ∀ j u, news[j]? = some u → w.cell? (p.add j) = some u) (h1 : ∀ u ∈ news, u.oneCell' = true) (h0 : r = none → m = 0)
  (hb : (m + k) * by_ ≤ 140737488355328) (hb0 : Nat.blt 0 by_ = true) (hN : dstOK N d = true)
  (h : ∀ r' : RowR, (r' = none → r = none ∧ k = 0) → XO P ro n N ds w0 X Q ops (putS d (valR r' (m + k)) σ) (hpR e sz r' (m + k) (xs ++ news) ++ η0) rest) :
  XO P ro n N ds w0 X Q ops σ η (⟨d, .call { callee := .builtin .append, args := #[s, x], argTypes := #[t, t] }, ty, pos, aft, g⟩ :: rest) := by
 subst hη
 refine xo_base rfl hg fun a w ha hw => ?_
 have hT := T.hel _ (look_mem ht)
 obtain ⟨i, hi1, hi2⟩ := Option.map_eq_some_iff.1 (T.hinf _ (look_mem hi))
 simp only [Prod.mk.injEq] at hi2
 obtain ⟨iz, isz, iby⟩ := hi2
 have hb1 : 0 < by_ := by simpa [Nat.blt_eq] using hb0
 have hlen : m + k ≤ 140737488355328 := Nat.le_trans (Nat.le_mul_of_pos_right _ hb1) hb
 cases A with
 | none =>
  have hk0 := hA rfl
  subst hk0
  have hnn : news = [] := List.eq_nil_of_length_eq_zero (by simpa using hn)
  subst hnn
  have hr : ∃ base cap, valR r m = .slice base m cap ∧ m ≤ cap := by
   cases r with
   | none => exact ⟨none, 0, by rw [h0 rfl]; rfl, by rw [h0 rfl]; exact Nat.le_refl _⟩
   | some p =>
    obtain ⟨o, h2, cur, rfl, h3, _⟩ := hw.bl (p.1, true, orow e sz m p.2 xs) (List.mem_append_left _ (List.mem_cons_self ..))
    exact ⟨_, _, rfl, h3⟩
  obtain ⟨base, cap, hv, hle⟩ := hr
  have hsrc : Src P i.size t (.slice none 0 c) 0 [] w := ⟨.inl ⟨e, hT⟩, fun w' => by simp [Builtin.lenOf], by simp [Builtin.firstCells], by simp [Builtin.firstCells], by simp, by simp⟩
  have hrun := run_append_nothing (P := P) w t t ty e i hT hi1 base m cap hle _ hsrc
  refine ⟨.value (valR r m), w, _, ?_, .inl rfl, h r (fun q => ⟨q, rfl⟩) _ _ (ha.put hN _) (by rw [List.append_nil]; exact hw)⟩
  simp only [execOp, resolve, invoke, builtin, Sem.run_bind, Sem.run_pure, Result.andThen_ok, List.map_toArray, List.map_cons, List.map_nil, ha.ev hs, ha.ev hx, hv, hrun]
 | some p =>
  have hown := hw.owns hl h0
  obtain ⟨v', w', hr, own', hgr, hnil, hat⟩ := run_append_own_at (P := P) w 0 t ty e i z sz by_ hT hi1 iz isz iby (by simpa using hzs) (by simpa [Nat.blt_eq] using hsz) (valR r m) m xs hown p k c news hn
   (fun j u hj => hnews p rfl w hw j u hj) h1 (by simp only [maxLen]; omega) hb (Nat.zero_le _)
  have hη0 := hw.sub (List.sublist_append_right (hpR e sz r m xs) η0)
  have hold : ∀ k, k < w.heap.size → (∀ p, r = some p → k ≠ p.1) → w'.heap[k]? = w.heap[k]? := fun k hk hne => hgr.block k hk (fun e' => by
   cases r with
   | none => simp [valR, Value.ownBlock] at e'
   | some p => simp [valR, Value.ownBlock] at e'; exact hne p rfl e')
  have hne0 : ∀ e' ∈ η0, ∀ p, r = some p → e'.1 ≠ p.1 := fun e' he p hp q => by
   subst hp
   have hnd := hw.nd
   simp only [hpR, List.cons_append, List.nil_append, List.map_cons, List.nodup_cons] at hnd
   exact hnd.1 (List.mem_map.2 ⟨e', he, q⟩)
  have hrow : ∀ p, r = some p → w0.heap.size ≤ p.1 ∨ X p.1 := fun p hp => by
   subst hp
   exact hw.ow (p.1, true, orow e sz m p.2 xs) (List.mem_append_left _ (List.mem_cons_self ..)) rfl
  have hk0 : Kx X w0 w' := ⟨hgr.os.trans hη0.kx.os, hgr.tape.trans hη0.kx.tape, hgr.output.trans hη0.kx.output, Nat.le_trans hη0.kx.size hgr.size, fun k hk hx => by
   refine (hold k (Nat.lt_of_lt_of_le hk hη0.kx.size) (fun p hp q => ?_)).trans (hη0.kx.block k hk hx)
   subst q
   rcases hrow p hp with h9 | h9
   ·exact absurd hk (Nat.not_lt.2 h9)
   ·exact hx h9⟩
  have hw0' : WOK w0 X η0 w' := ⟨hk0, fun e' he => by
   obtain ⟨o, h9, h10⟩ := hη0.bl e' he
   exact ⟨o, (hold _ (hη0.lt he) (hne0 e' he)).trans h9, h10⟩, hη0.nd, hη0.ow⟩
  obtain ⟨h2, h3⟩ := own'
  have run : ∀ v'', v' = v'' → (execOp a.eval ⟨d, .call { callee := .builtin .append, args := #[s, x], argTypes := #[t, t] }, ty, pos, aft, g⟩).run P w = .ok (.value v'') w' := fun v'' e' => by
   subst e'
   simp only [execOp, resolve, invoke, builtin, Sem.run_bind, Sem.run_pure, Result.andThen_ok, List.map_toArray, List.map_cons, List.map_nil, ha.ev hs, ha.ev hx, hr]
  rcases h3 with ⟨hv0, h3⟩ | ⟨g', cap', cur, hv0, _, h4, h5, h6, h7, h8⟩
  ·have hm0 : m = 0 ∧ k = 0 := by omega
   obtain ⟨hr0, _⟩ := hnil.1 hv0
   have hrn : r = none := by
    cases r with
    | none => rfl
    | some p => simp [valR] at hr0
   refine ⟨.value (valR none (m + k)), w', _, run _ hv0, .inl rfl, h none (fun _ => ⟨hrn, hm0.2⟩) _ _ (ha.put hN _) hw0'⟩
  ·refine ⟨.value (.slice (some ⟨g', 0, none⟩) (m + k) cap'), w', _, run _ hv0, .inl rfl, h (some (g', cap')) (by simp) _ _ (ha.put hN _) ?_⟩
   subst hv0
   have hg' : (∃ p, r = some p ∧ g' = p.1) ∨ g' = w.heap.size := by
    rcases hat with hat | hat
    ·left
     cases r with
     | none => simp [valR, Value.ownBlock] at hat
     | some p => simp [valR, Value.ownBlock] at hat; exact ⟨p, rfl, hat⟩
    ·right
     simpa [Value.ownBlock] using hat
   refine ⟨hk0, ?_, ?_, ?_⟩
   ·intro e' he
    rcases List.mem_append.1 he with he | he
    ·simp only [hpR, List.mem_singleton] at he
     subst he
     exact ⟨_, h4, cur, rfl, h5, h6, h7, h8⟩
    ·exact hw0'.bl e' he
   ·simp only [hpR, List.cons_append, List.nil_append, List.map_cons, List.nodup_cons]
    refine ⟨fun hm => ?_, hη0.nd⟩
    obtain ⟨e', he, q⟩ := List.mem_map.1 hm
    rcases hg' with ⟨p, hp, hg'⟩ | hg'
    ·exact hne0 e' he p hp (q.trans hg')
    ·have := hη0.lt he
     omega
   ·intro e' he hwr
    rcases List.mem_append.1 he with he | he
    ·simp only [hpR, List.mem_singleton] at he
     subst he
     rcases hg' with ⟨p, hp, hg'⟩ | hg'
     ·rw [show g' = p.1 from hg']; exact hrow p hp
     ·exact .inl (by rw [show g' = _ from hg']; exact hη0.kx.size)
    ·exact hη0.ow e' he hwr
end
def PostK (K : Act → World → Prop) : Exit → Act → World → Prop
 | .normal, a, w => K a w
 | _, _, _ => False
theorem wpIn_swapK {F : Fence} {n : Nat} {P : Program} {o : Oper} {a : Act} {w : World} {K K' : Act → World → Prop} {Q : Exit → Act → World → Prop}
  (h : o.wpIn F n P a w K (PostK K')) : o.wpIn F n P a w K Q := by
 unfold Oper.wpIn at *
 refine ⟨h.1, ?_⟩
 have hh := h.2
 generalize (o.semAt F.round a.eval).run P w = r at *
 cases r with
 | ok x w' =>
  cases x <;> simp only [Oper.uponIn] at hh ⊢ <;>
   first
    | exact hh
    | exact ⟨hh.1, CallsIn.mono hh.2 (fun e w'' he => by
      cases e with
      | returned v => exact he
      | panicked c => exact he.elim
      | outgrown => obtain ⟨_, _, h3⟩ := he; exact h3.elim)⟩
    | exact ⟨hh.1, RoundIn.mono hh.2 (fun e w'' he => by
      cases e with
      | returned v => exact he
      | panicked c => exact he.elim
      | outgrown => obtain ⟨_, _, h3⟩ := he; exact h3.elim)⟩
 | halt x w' => cases x <;> simp only [Oper.uponIn] at hh ⊢ <;> first | exact hh | exact hh.elim
section
variable {P : Program} {ro : Option Nat} {n N : Nat} {ds : List Deferred} {w0 : World} {X : Nat → Prop} {Q : Exit → Act → World → Prop} {σ : Slots} {η : Hp}
def GPost {γ : Type} (N : Nat) (ds : List Deferred) (w0 : World) (X : Nat → Prop) (ops : List Oper) (vs : γ → List Value) (H : γ → Hp) (Ok : List Nat → γ → Prop) (i : Nat) (L : List Nat) (g : γ) (d : Option Tmp) (σ : Slots) : Act → World → Prop := fun a w =>
 ∃ g', Ok (i :: L) g' ∧ (∀ j ∈ L, nth j (vs g') = nth j (vs g)) ∧ (∃ v, nth i (vs g') = some v ∧ SOK N ds (putS d v σ) a) ∧ WOK w0 X (H g') w
def DrawG {γ : Type} (P : Program) (ro : Option Nat) (n N : Nat) (ds : List Deferred) (w0 : World) (X : Nat → Prop) (ops : List Oper) (vs : γ → List Value) (H : γ → Hp) (Ok : List Nat → γ → Prop) (σ : Slots) : Nat → List Oper → Prop
 | _, [] => True
 | i, o :: r => (∀ L g, Ok L g → i ∉ L → (∀ j ∈ depOf o, j ∈ L) → ∀ τ, XO P ro n N ds w0 X (PostK (GPost N ds w0 X ops vs H Ok i L g o.dst (flatS ops (vs g) (depOf o) σ ++ τ))) ops (flatS ops (vs g) (depOf o) σ ++ τ) (H g) [o]) ∧ DrawG P ro n N ds w0 X ops vs H Ok σ (i + 1) r
theorem drawG_get {γ : Type} {ops : List Oper} {vs : γ → List Value} {H : γ → Hp} {Ok : List Nat → γ → Prop} : ∀ (l : List Oper) (k i : Nat) (o : Oper), DrawG P ro n N ds w0 X ops vs H Ok σ k l → l[i]? = some o →
  ∀ L g, Ok L g → k + i ∉ L → (∀ j ∈ depOf o, j ∈ L) → ∀ τ, XO P ro n N ds w0 X (PostK (GPost N ds w0 X ops vs H Ok (k + i) L g o.dst (flatS ops (vs g) (depOf o) σ ++ τ))) ops (flatS ops (vs g) (depOf o) σ ++ τ) (H g) [o]
 | [], k, i, o, _, h => by simp at h
 | x :: r, k, 0, o, h, h1 => by
  simp at h1
  subst h1
  exact h.1
 | x :: r, k, i + 1, o, h, h1 => by
  have := drawG_get r (k + 1) i o h.2 (by simpa using h1)
  rw [show k + 1 + i = k + (i + 1) by omega] at this
  exact this
theorem DrawG.nil {γ : Type} {ops : List Oper} {vs : γ → List Value} {H : γ → Hp} {Ok : List Nat → γ → Prop} {i : Nat} : DrawG P ro n N ds w0 X ops vs H Ok σ i [] := trivial
theorem DrawG.cons {γ : Type} {ops : List Oper} {vs : γ → List Value} {H : γ → Hp} {Ok : List Nat → γ → Prop} {i : Nat} {o : Oper} {r : List Oper} (h : ∀ L g, Ok L g → i ∉ L → (∀ j ∈ depOf o, j ∈ L) → ∀ τ, XO P ro n N ds w0 X (PostK (GPost N ds w0 X ops vs H Ok i L g o.dst (flatS ops (vs g) (depOf o) σ ++ τ))) ops (flatS ops (vs g) (depOf o) σ ++ τ) (H g) [o])
  (t : DrawG P ro n N ds w0 X ops vs H Ok σ (i + 1) r) : DrawG P ro n N ds w0 X ops vs H Ok σ i (o :: r) := ⟨h, t⟩
theorem DrawG.pure {γ : Type} {ops : List Oper} {vs : γ → List Value} {H : γ → Hp} {Ok : List Nat → γ → Prop} {i : Nat} {o : Oper} {r : List Oper} (hk : ∀ L g, Ok L g → Ok (i :: L) g)
  (h : ∀ L g, Ok L g → i ∉ L → (∀ j ∈ depOf o, j ∈ L) → ∀ τ, ∃ v, nth i (vs g) = some v ∧ XO P ro n N ds w0 X (OnePost N ds w0 X (H g) (putS o.dst v (flatS ops (vs g) (depOf o) σ ++ τ))) ops (flatS ops (vs g) (depOf o) σ ++ τ) (H g) [o])
  (t : DrawG P ro n N ds w0 X ops vs H Ok σ (i + 1) r) : DrawG P ro n N ds w0 X ops vs H Ok σ i (o :: r) := by
 refine ⟨fun L g hg hi hd τ => ?_, t⟩
 obtain ⟨v, hv, hx⟩ := h L g hg hi hd τ
 intro a w ha hw
 have hr := hx a w ha hw
 unfold wpListIn at hr ⊢
 split at hr
 ·rename_i hw1
  rw [if_pos hw1]
  exact wpIn_swap (Oper.wpIn_mono (fun a' w' h' => show wpListIn _ _ _ _ _ [] a' w' from ⟨g, hk L g hg, fun _ _ => rfl, ⟨v, hv, h'.1⟩, h'.2⟩) hr)
 ·rename_i hw1
  rw [if_neg hw1]
  exact ⟨fun _ _ => trivial, ⟨g, hk L g hg, fun _ _ => rfl, ⟨v, hv, hr.2.1⟩, hr.2.2⟩⟩
theorem xc_drawG {γ : Type} {id : Nat} {ops : List Oper} (vs : γ → List Value) (H : γ → Hp) (Ok : List Nat → γ → Prop) (g0 : γ) (hOk0 : Ok [] g0) (hH0 : H g0 = η) (hlv : ∀ g, (vs g).length = ops.length) (hmix : P.follows .mixedOrders = true) (hbind : true = true) (hdeps : depsB 0 ops = true) (hdist : distB (dstsOf_ ops) = true) (hfresh : freshB σ (dstsOf_ ops) = true)
  (hop : DrawG P ro n N ds w0 X ops vs H Ok σ 0 ops) (hQ : ∀ L g, Ok L g → (∀ j, j < ops.length → j ∈ L) → XQ N ds w0 X Q .normal (flatS ops (vs g) (List.range ops.length) σ) (H g)) : XC P ro n N ds w0 X Q σ η (.region id ops.toArray true) := by
 have hdis := fun i j k => distB_get ops i j k hdist
 have hfr : ∀ j d, nthD j ops = some d → slot d σ = none := fun j d h => by
  rw [nthD_eq] at h
  obtain ⟨o, ho, ho2⟩ := Option.bind_eq_some_iff.1 h
  exact freshB_get _ d hfresh (List.mem_filterMap.2 ⟨o, List.mem_of_getElem? ho, ho2⟩)
 have hnot : ∀ k u, slot k σ = some u → ∀ j, nthD j ops ≠ some k := fun k u h j e => by rw [hfr j k e] at h; cases h
 -- those of some are those of more
 have hmore : ∀ (g : γ) (L M : List Nat), (∀ j ∈ L, j ∈ M) → ∀ k u, slot k (flatS ops (vs g) L σ) = some u → slot k (flatS ops (vs g) M σ) = some u := by
  intro g L M h k u hk
  rcases flat_a L hk with ⟨j, hj, h1, h2⟩ | h1
  ·exact flat_b hdis h1 h2 M (h j hj)
  ·rw [flat_c (hnot k u h1) M]; exact h1
 intro a w ha hw
 refine wpIn_region_any hmix ?_
 have key : ∀ (fuel : Nat) (L : List Nat) (listed : Array Bool) (a : Act) (w : World), listed.size = ops.length → (∀ j, listed.getD j false = true ↔ j ∈ L) → (∀ j ∈ L, j < ops.length) → ((List.range ops.length).filter fun j => !listed.getD j false).length ≤ fuel → ∀ g, Ok L g → SOK N ds (flatS ops (vs g) L σ) a → WOK w0 X (H g) w →
   wpAnyIn (wideR ro) n P .any ops.toArray Q fuel listed a w := by
  intro fuel
  induction fuel with
  | zero =>
   intro L listed a w hsz hL hLb hcnt g hOk ha hw
   have hall : ∀ j, j < ops.length → j ∈ L := by
    intro j hj
    have h0 := List.length_eq_zero_iff.1 (Nat.le_zero.1 hcnt)
    rw [List.filter_eq_nil_iff] at h0
    have := h0 j (List.mem_range.2 hj)
    exact (hL j).1 (by simpa using this)
   refine ⟨?_, hQ L g hOk hall a w (ha.le (hmore g _ _ (fun j hj => hall j (List.mem_range.1 hj)))) hw⟩
   apply List.eq_nil_iff_forall_not_mem.2
   intro j hj
   obtain ⟨h1, o, h2, _⟩ := mem_ready.1 hj
   have hlt : j < ops.length := by have := (Array.getElem?_eq_some_iff.1 h2).1; simpa using this
   have h3 := (hL j).2 (hall j hlt)
   rw [Array.getD_eq_getD_getElem?] at h1 h3
   rw [Array.getElem?_eq_getElem (by rw [hsz]; exact hlt)] at h1 h3
   simp at h1 h3
   rw [h1] at h3
   cases h3
  | succ fuel ih =>
   intro L listed a w hsz hL hLb hcnt g hOk ha hw
   refine ⟨fun hnil => ?_, fun i hi => ?_⟩
   ·-- nothing is ready: all are listed
    have hall : ∀ k j, j ≤ k → j < ops.length → j ∈ L := by
     intro k
     induction k with
     | zero =>
      intro j hj hlt
      by_cases hm : j ∈ L
      ·exact hm
      ·exfalso
       have : j ∈ Region.ready .any ops.toArray listed := by
        refine mem_ready.2 ⟨?_, ops[j], by simp [List.getElem?_eq_getElem hlt], ?_⟩
        ·have h3 : listed.getD j false ≠ true := fun q => hm ((hL j).1 q)
         rw [Array.getD_eq_getD_getElem?, Array.getElem?_eq_getElem (by rw [hsz]; exact hlt)] at h3 ⊢
         simpa using h3
        ·intro e he hbd
         have h4 := depsB_get ops 0 j ops[j] hdeps (List.getElem?_eq_getElem hlt) e.on (List.mem_map.2 ⟨e, List.mem_filter.2 ⟨by simpa using he, hbd⟩, rfl⟩)
         omega
       rw [hnil] at this
       cases this
     | succ k ihk =>
      intro j hj hlt
      by_cases hjk : j ≤ k
      ·exact ihk j hjk hlt
      by_cases hm : j ∈ L
      ·exact hm
      ·exfalso
       have : j ∈ Region.ready .any ops.toArray listed := by
        refine mem_ready.2 ⟨?_, ops[j], by simp [List.getElem?_eq_getElem hlt], ?_⟩
        ·have h3 : listed.getD j false ≠ true := fun q => hm ((hL j).1 q)
         rw [Array.getD_eq_getD_getElem?, Array.getElem?_eq_getElem (by rw [hsz]; exact hlt)] at h3 ⊢
         simpa using h3
        ·intro e he hbd
         have h4 := depsB_get ops 0 j ops[j] hdeps (List.getElem?_eq_getElem hlt) e.on (List.mem_map.2 ⟨e, List.mem_filter.2 ⟨by simpa using he, hbd⟩, rfl⟩)
         exact (hL e.on).2 (ihk e.on (by omega) (by omega))
       rw [hnil] at this
       cases this
    exact hQ L g hOk (fun j hj => hall j j (Nat.le_refl _) hj) a w (ha.le (hmore g _ _ (fun j hj => hall j j (Nat.le_refl _) (List.mem_range.1 hj)))) hw
   ·obtain ⟨h1, o, h2, h3⟩ := mem_ready.1 hi
    have hlt : i < ops.length := by have := (Array.getElem?_eq_some_iff.1 h2).1; simpa using this
    have ho : ops[i]? = some o := by simpa using h2
    have hnl : ¬ i ∈ L := fun q => by
     have h4 := (hL i).2 q
     rw [Array.getD_eq_getD_getElem?, Array.getElem?_eq_getElem (by rw [hsz]; exact hlt)] at h1 h4
     simp at h1 h4
     rw [h1] at h4
     cases h4
    have hdL : ∀ j ∈ depOf o, j ∈ L := by
     intro j hj
     obtain ⟨e, he, rfl⟩ := List.mem_map.1 hj
     obtain ⟨he, hb⟩ := List.mem_filter.1 he
     exact (hL e.on).1 (h3 e (by simpa using he) hb)
    have hcons := hmore g (depOf o) L hdL
    have hs : SOK N ds (flatS ops (vs g) (depOf o) σ ++ flatS ops (vs g) L σ) a := ha.le fun k u hk => by
     rw [slot_app] at hk
     cases hd : slot k (flatS ops (vs g) (depOf o) σ) with
     | some x => rw [hd] at hk; cases hk; exact hcons k _ hd
     | none => rw [hd] at hk; exact hk
    have hrun := drawG_get ops 0 i o hop ho L g hOk (by rwa [Nat.zero_add]) hdL (flatS ops (vs g) L σ) a w hs hw
    rw [Nat.zero_add] at hrun
    have hnext : ∀ a' w', GPost N ds w0 X ops vs H Ok i L g o.dst (flatS ops (vs g) (depOf o) σ ++ flatS ops (vs g) L σ) a' w' → wpAnyIn (wideR ro) n P .any ops.toArray Q fuel (listed.setIfInBounds i true) a' w' := by
     rintro a' w' ⟨g', hOk', hsame, ⟨v, hv, ha'⟩, hw'⟩
     have hflat : flatS ops (vs g') L σ = flatS ops (vs g) L σ := by
      clear hOk hOk' ih hs hrun ha hw ha' hw' hL hLb hnl hdL hcons hcnt
      induction L with
      | nil => rfl
      | cons j L ihL =>
       unfold flatS
       rw [ihL (fun j hj => hsame j (List.mem_cons_of_mem _ hj))]
       congr 1
       unfold dstv
       rw [hsame j (List.mem_cons_self ..)]
     refine ih (i :: L) _ a' w' (by simp [hsz]) ?_ ?_ ?_ g' hOk' (ha'.le ?_) hw'
     ·intro j
      rw [Array.getD_eq_getD_getElem?]
      by_cases e : i = j
      ·subst e
       rw [Array.getElem?_setIfInBounds_self, if_pos (by rw [hsz]; exact hlt)]
       simp
      ·rw [Array.getElem?_setIfInBounds_ne e, ← Array.getD_eq_getD_getElem?, hL j]
       simp [show ¬ j = i from fun q => e q.symm]
     ·intro j hj
      rcases List.mem_cons.1 hj with rfl | hj
      ·exact hlt
      ·exact hLb j hj
     ·have : ((List.range ops.length).filter fun j => !(listed.setIfInBounds i true).getD j false).length < ((List.range ops.length).filter fun j => !listed.getD j false).length := by
       refine filter_less (i := i) ?_ (List.mem_range.2 hlt) ?_ ?_
       ·intro j hj hq
        by_cases e : i = j
        ·subst e
         rw [Array.getD_eq_getD_getElem?, Array.getElem?_setIfInBounds_self, if_pos (by rw [hsz]; exact hlt)] at hq
         simp at hq
        ·rw [Array.getD_eq_getD_getElem?, Array.getElem?_setIfInBounds_ne e, ← Array.getD_eq_getD_getElem?] at hq
         exact hq
       ·have h4 : listed.getD i false ≠ true := fun q => hnl ((hL i).1 q)
        simpa using h4
       ·rw [Array.getD_eq_getD_getElem?, Array.getElem?_setIfInBounds_self, if_pos (by rw [hsz]; exact hlt)]
        simp
      omega
     ·intro k u hk
      unfold flatS at hk
      rw [slot_app] at hk
      cases hd : slot k (dstv ops (vs g') i) with
      | some x =>
       rw [hd] at hk
       cases hk
       obtain ⟨h5, h6⟩ := slot_dstv.1 hd
       rw [hv] at h6
       cases h6
       rw [nthD_eq, ho] at h5
       simp only [Option.bind_some] at h5
       rw [h5]
       unfold putS slot
       simp
      | none =>
       rw [hd] at hk
       rw [hflat] at hk
       have h7 : slot k (flatS ops (vs g) (depOf o) σ ++ flatS ops (vs g) L σ) = some u := by
        rw [slot_app]
        cases hd2 : slot k (flatS ops (vs g) (depOf o) σ) with
        | some x => have hk' : slot k (flatS ops (vs g) L σ) = some u := hk; have := hcons k x hd2; rw [hk'] at this; exact this.symm
        | none => exact hk
       cases hdo : o.dst with
       | none => exact h7
       | some d =>
        unfold putS slot
        have hne : Nat.beq d k = false := by
         cases hb : Nat.beq d k with
         | false => rfl
         | true =>
          exfalso
          have e := Nat.eq_of_beq_eq_true hb
          subst e
          rw [slot_dstv.2 ⟨by rw [nthD_eq, ho]; exact hdo, hv⟩] at hd
          cases hd
        simp only [hne, cond_false]
        exact h7
    unfold wpOpIn
    simp only [h2]
    unfold wpListIn at hrun
    split at hrun
    ·rename_i hw1
     rw [if_pos hw1]
     exact wpIn_swapK (Oper.wpIn_mono (fun a' w' h => hnext a' w' h) hrun)
    ·rename_i hw1
     rw [if_neg hw1]
     exact ⟨fun _ _ => trivial, hnext _ _ hrun.2⟩
 refine key _ [] _ a w.drew (by simp) (fun j => ?_) (fun j hj => by cases hj) ?_ g0 hOk0 ha (by rw [hH0]; exact hw.drew)
 ·constructor
  ·intro h
   rw [Array.getD_eq_getD_getElem?, Array.getElem?_replicate] at h
   split at h <;> simp at h
  ·intro h
   cases h
 ·have := List.length_filter_le (fun j => !(Array.replicate ops.toArray.size false).getD j false) (List.range ops.length)
  simpa using this
end
def ovr : Nat → List (Nat × Value) → List Value → List Value
 | _, _, [] => []
 | i, ws, c :: cs => (match look i ws with
  | some v => v
  | none => c) :: ovr (i + 1) ws cs
theorem ovr_len (ws : List (Nat × Value)) : ∀ (cs : List Value) (i : Nat), (ovr i ws cs).length = cs.length
 | [], _ => rfl
 | c :: cs, i => by simp [ovr, ovr_len ws cs (i + 1)]
inductive SameLen : List Value → List Oper → Prop
 | nil : SameLen [] []
 | cons {cs : List Value} {o : Oper} {ops : List Oper} (h : SameLen cs ops) {c : Value} : SameLen (c :: cs) (o :: ops)
theorem SameLen.len {cs : List Value} {ops : List Oper} (h : SameLen cs ops) : cs.length = ops.length := by
 induction h with
 | nil => rfl
 | cons _ ih => simp [ih]
structure GV where
 b : Nat
 c : Nat
 rr : RowR
def gv0 : GV := ⟨0, 0, none⟩
def okN (F : List GV → Prop) (nd E : List Nat) (U : List (List Nat)) (L : List Nat) (g : List GV) : Prop := g.length ≤ E.length ∧ (∀ j ∈ L, nd.getD j 0 ≤ g.length) ∧ (∀ k, k < g.length → E.getD k 0 ∈ L ∧ ∀ j ∈ U.getD k [], j ∈ L) ∧ F g
section
variable {P : Program} {ro : Option Nat} {n N : Nat} {ds : List Deferred} {w0 : World} {X : Nat → Prop} {Q : Exit → Act → World → Prop} {σ : Slots} {η : Hp} {ops : List Oper} {vs : List GV → List Value} {H : List GV → Hp} {nd E : List Nat} {U : List (List Nat)} {F : List GV → Prop}
def EPost (F : List GV → Prop) (N : Nat) (ds : List Deferred) (w0 : World) (X : Nat → Prop) (vs : List GV → List Value) (H : List GV → Hp) (i : Nat) (g : List GV) (d : Option Tmp) (σ : Slots) : Act → World → Prop := fun a w =>
 ∃ x : GV, (∃ v, nth i (vs (g ++ [x])) = some v ∧ SOK N ds (putS d v σ) a) ∧ WOK w0 X (H (g ++ [x])) w ∧ F (g ++ [x])
theorem xo_finE {i : Nat} {g : List GV} {d : Option Tmp} {σ : Slots} {v : Value} (x : GV) (hv : nth i (vs (g ++ [x])) = some v) (hF : F (g ++ [x])) : XO P ro n N ds w0 X (PostK (EPost F N ds w0 X vs H i g d σ)) ops (putS d v σ) (H (g ++ [x])) [] := by
 intro a w ha hw
 exact ⟨x, ⟨v, hv, ha⟩, hw, hF⟩
theorem DrawE.nil {i : Nat} : DrawG P ro n N ds w0 X ops vs H (okN F nd E U) σ i [] := trivial
theorem DrawE.pure {i : Nat} {o : Oper} {r : List Oper} (m u : Nat) (hm : nd.getD i 0 = m) (hu : u = E.length ∨ i ∈ U.getD u []) (hle : ∀ L g, okN F nd E U L g → (∀ j ∈ depOf o, j ∈ L) → m ≤ g.length)
  (hx : ∀ g, m ≤ g.length → g.length ≤ u → F g → ∀ τ, ∃ v, nth i (vs g) = some v ∧ XO P ro n N ds w0 X (OnePost N ds w0 X (H g) (putS o.dst v (flatS ops (vs g) (depOf o) σ ++ τ))) ops (flatS ops (vs g) (depOf o) σ ++ τ) (H g) [o])
  (t : DrawG P ro n N ds w0 X ops vs H (okN F nd E U) σ (i + 1) r) : DrawG P ro n N ds w0 X ops vs H (okN F nd E U) σ i (o :: r) := by
 refine ⟨fun L g hg hi hd τ => ?_, t⟩
 have hmg := hle L g hg hd
 have hok : okN F nd E U (i :: L) g := ⟨hg.1, fun j hj => by
  rcases List.mem_cons.1 hj with rfl | hj
  ·rw [hm]; exact hmg
  ·exact hg.2.1 j hj, fun k hk => ⟨List.mem_cons_of_mem _ (hg.2.2.1 k hk).1, fun j hj => List.mem_cons_of_mem _ ((hg.2.2.1 k hk).2 j hj)⟩, hg.2.2.2⟩
 have hgu : g.length ≤ u := by
  rcases hu with rfl | hu
  ·exact hg.1
  ·by_cases h : u < g.length
   ·exact absurd ((hg.2.2.1 u h).2 i hu) hi
   ·omega
 obtain ⟨v, hv, hx⟩ := hx g hmg hgu hg.2.2.2 τ
 intro a w ha hw
 have hr := hx a w ha hw
 unfold wpListIn at hr ⊢
 split at hr
 ·rename_i hw1
  rw [if_pos hw1]
  exact wpIn_swap (Oper.wpIn_mono (fun a' w' h' => show wpListIn _ _ _ _ _ [] a' w' from ⟨g, hok, fun _ _ => rfl, ⟨v, hv, h'.1⟩, h'.2⟩) hr)
 ·rename_i hw1
  rw [if_neg hw1]
  exact ⟨fun _ _ => trivial, ⟨g, hok, fun _ _ => rfl, ⟨v, hv, hr.2.1⟩, hr.2.2⟩⟩
theorem DrawE.eff {i : Nat} {o : Oper} {r : List Oper} (k : Nat) (hE : E.getD k 0 = i) (hk : k < E.length) (hnd : nd.getD i 0 = k + 1) (hU : ∀ j ∈ U.getD k [], j ∈ depOf o) (hst : ∀ j g a, nd.getD j 0 ≤ g.length → nth j (vs (g ++ [a])) = nth j (vs g))
  (hle : ∀ L g, okN F nd E U L g → (∀ j ∈ depOf o, j ∈ L) → k ≤ g.length)
  (hx : ∀ g, g.length = k → F g → ∀ τ, XO P ro n N ds w0 X (PostK (EPost F N ds w0 X vs H i g o.dst (flatS ops (vs g) (depOf o) σ ++ τ))) ops (flatS ops (vs g) (depOf o) σ ++ τ) (H g) [o])
  (t : DrawG P ro n N ds w0 X ops vs H (okN F nd E U) σ (i + 1) r) : DrawG P ro n N ds w0 X ops vs H (okN F nd E U) σ i (o :: r) := by
 refine ⟨fun L g hg hi hd τ => ?_, t⟩
 have hkg := hle L g hg hd
 have hgk : g.length = k := by
  by_cases h : k < g.length
  ·exact absurd (hE ▸ (hg.2.2.1 k h).1) hi
  ·omega
 have hh := hx g hgk hg.2.2.2 τ
 intro a w ha hw
 have hr := hh a w ha hw
 have key : ∀ a' w', EPost F N ds w0 X vs H i g o.dst (flatS ops (vs g) (depOf o) σ ++ τ) a' w' → GPost N ds w0 X ops vs H (okN F nd E U) i L g o.dst (flatS ops (vs g) (depOf o) σ ++ τ) a' w' := by
  rintro a' w' ⟨x, h1, h2, h3⟩
  refine ⟨g ++ [x], ⟨by simp; omega, fun j hj => ?_, fun q hq => ?_, h3⟩, fun j hj => hst j g x (hg.2.1 j hj), h1, h2⟩
  ·rcases List.mem_cons.1 hj with rfl | hj
   ·rw [hnd, List.length_append, List.length_singleton]; omega
   ·have := hg.2.1 j hj; rw [List.length_append, List.length_singleton]; omega
  ·by_cases e : q = k
   ·subst e
    exact ⟨by rw [hE]; exact List.mem_cons_self .., fun j hj => List.mem_cons_of_mem _ (hd j (hU j hj))⟩
   ·have := hg.2.2.1 q (by simp at hq; omega)
    exact ⟨List.mem_cons_of_mem _ this.1, fun j hj => List.mem_cons_of_mem _ (this.2 j hj)⟩
 unfold wpListIn at hr ⊢
 split at hr
 ·rename_i hw1
  rw [if_pos hw1]
  exact wpIn_swapK (Oper.wpIn_mono (fun a' w' h' => show wpListIn _ _ _ _ _ [] a' w' from key a' w' h') hr)
 ·rename_i hw1
  rw [if_neg hw1]
  exact ⟨fun _ _ => trivial, key _ _ hr.2⟩
theorem xc_drawE {id : Nat} (ws : List GV → List (Nat × Value)) (Hf : Hp → List GV → Hp) (F : List GV → Prop) (nd E : List Nat) (U : List (List Nat)) (hF0 : F []) {cs : List Value} (hlv : SameLen cs ops) (hH0 : Hf η [] = η) (hmix : P.follows .mixedOrders = true) (hbind : true = true) (hdeps : depsB 0 ops = true) (hdist : distB (dstsOf_ ops) = true) (hfresh : freshB σ (dstsOf_ ops) = true)
  (hE : E.all (fun e => Nat.blt e ops.length && decide (nd.getD e 0 = E.idxOf e + 1)) = true) (hEn : E.Nodup)
  (hop : DrawG P ro n N ds w0 X ops (fun g => ovr 0 (ws g) cs) (Hf η) (okN F nd E U) σ 0 ops) (hQ : ∀ g, g.length = E.length → F g → XQ N ds w0 X Q .normal (flatS ops (ovr 0 (ws g) cs) (List.range ops.length) σ) (Hf η g)) : XC P ro n N ds w0 X Q σ η (.region id ops.toArray true) := by
 refine xc_drawG (fun g => ovr 0 (ws g) cs) (Hf η) (okN F nd E U) [] ⟨Nat.zero_le _, by simp, by simp, hF0⟩ hH0 (fun g => (ovr_len ..).trans hlv.len) hmix hbind hdeps hdist hfresh hop fun L g hg hall => hQ g ?_ hg.2.2.2
 refine Nat.le_antisymm hg.1 ?_
 by_cases he : E.length = 0
 ·omega
 ·have hlt : E.length - 1 < E.length := by omega
  have h1 := List.all_eq_true.1 hE _ (List.getElem_mem hlt)
  rw [Bool.and_eq_true, decide_eq_true_eq, Nat.blt_eq] at h1
  have h2 := hg.2.1 _ (hall _ h1.1)
  rw [h1.2] at h2
  have h3 : E.idxOf E[E.length - 1] = E.length - 1 := hEn.idxOf_getElem _ hlt
  omega
end
end Go.Proofs.YtommeljlfkmpjaaDoor
namespace Go.Proofs.YtommeljlfkmpjaaDoor
open Go.RowKit Go.Proofs.YtommeljlfkmpjaaDoorW.PrintWords
theorem flat_len {α : Type} (sz : Nat) : ∀ (cells : List (List α)), (∀ c ∈ cells, c.length = sz) → cells.flatten.length = cells.length * sz
 | [], _ => by simp
 | c :: r, h => by
  rw [List.flatten_cons, List.length_append, flat_len sz r (fun x hx => h x (List.mem_cons_of_mem _ hx)), h c (List.mem_cons_self ..), List.length_cons, Nat.add_mul]
  omega
theorem flat_at {α : Type} (sz : Nat) : ∀ (cells : List (List α)) (j i : Nat), (∀ c ∈ cells, c.length = sz) → i < sz → cells.flatten[j * sz + i]? = (cells[j]?).bind (·[i]?)
 | [], j, i, _, _ => by simp
 | c :: r, 0, i, h, hi => by
  have := h c (List.mem_cons_self ..)
  simp only [Nat.zero_mul, Nat.zero_add, List.flatten_cons, List.getElem?_cons_zero, Option.bind_some]
  rw [List.getElem?_append_left (by omega)]
 | c :: r, j + 1, i, h, hi => by
  have := h c (List.mem_cons_self ..)
  rw [List.flatten_cons, List.getElem?_append_right (by rw [this, Nat.add_mul]; omega), List.getElem?_cons_succ, ← flat_at sz r j i (fun x hx => h x (List.mem_cons_of_mem _ hx)) hi, this]
  congr 1
  rw [Nat.add_mul]
  omega
theorem flat_set {α : Type} (sz : Nat) : ∀ (cells : List (List α)) (j i : Nat) (c : List α) (v : α), (∀ c ∈ cells, c.length = sz) → cells[j]? = some c → i < sz → cells.flatten.set (j * sz + i) v = (cells.set j (c.set i v)).flatten
 | [], j, i, c, v, _, h, _ => by simp at h
 | x :: r, 0, i, c, v, h, hc, hi => by
  simp at hc
  subst hc
  have := h x (List.mem_cons_self ..)
  simp only [Nat.zero_mul, Nat.zero_add, List.flatten_cons, List.set_cons_zero]
  rw [List.set_append_left _ _ (by omega)]
 | x :: r, j + 1, i, c, v, h, hc, hi => by
  have := h x (List.mem_cons_self ..)
  rw [List.flatten_cons, List.set_append_right _ _ (by rw [this, Nat.add_mul]; omega), List.set_cons_succ, List.flatten_cons, ← flat_set sz r j i c v (fun x hx => h x (List.mem_cons_of_mem _ hx)) (by simpa using hc) hi, this]
  congr 2
  rw [Nat.add_mul]
  omega
theorem C_row {α : Type} {d : Kd α} {w : World} {b cap : Nat} {e : TypeId} {xs : List α} {cells : List (List Value)} {o : Obj} (ho : w.heap[b]? = some o) (hr : orow e d.sz cells.length cap cells.flatten o) (hl : cells.length = xs.length) (hc : ∀ c ∈ cells, c.length = d.sz)
  (hK : ∀ (j : Nat) (x : α) (c : List Value), xs[j]? = some x → cells[j]? = some c → d.K w x c) (hm : xs.length ≤ 9223372036854775807) : Kd.C d w (some ⟨b, 0, none⟩) xs.length xs := by
 obtain ⟨cur, rfl, h5, h6, h7, h8⟩ := hr
 refine ⟨rfl, hm, fun _ => ⟨_, rfl, fun j x hj => ?_⟩⟩
 have hjl : j < cells.length := by have := (List.getElem?_eq_some_iff.1 hj).1; omega
 have hcj := List.getElem?_eq_getElem hjl
 refine ⟨cells[j], hc _ (List.getElem_mem hjl), hK j x _ hj hcj, ?_⟩
 intro i u hu
 have hi : i < d.sz := by have := (List.getElem?_eq_some_iff.1 hu).1; have := hc _ (List.getElem_mem hjl); omega
 have h9 := flat_at d.sz cells j i hc hi
 rw [hcj, Option.bind_some, hu, ← h8] at h9
 rw [List.getElem?_take] at h9
 split at h9
 ·rw [Addr.add_lit, Nat.zero_add, cell_of_row w b _ _ e _ ho, ← Array.getElem?_toList]
  exact h9
 ·cases h9
section
variable {P : Program} {ro : Option Nat} {n N : Nat} {ds : List Deferred} {w0 : World} {X : Nat → Prop} {Q : Exit → Act → World → Prop} {σ : Slots} {η : Hp} {ops rest : List Oper} {d : Option Tmp} {ty : TypeId} {pos : String} {aft : Array Edge} {g : Option (Nat × Bool)}
theorem xo_loadZ (T : Tys P) {t : TypeId} {x : Operand} {p : Addr} {b m cap k sz : Nat} {wr : Bool} {xs : List Value} {te : TypeId} {v : Value} (hg : gS ops σ g = some true) (ht : look t T.tk = some 0) (hx : ev σ x = some (.pointer (some p))) (hp : p = ⟨b, k, none⟩) (hm : (b, wr, orow te sz m cap xs) ∈ η) (hv : xs[k]? = some v) (hN : dstOK N d = true)
  (h : XO P ro n N ds w0 X Q ops (putS d v σ) η rest) : XO P ro n N ds w0 X Q ops σ η (⟨d, .load t x, ty, pos, aft, g⟩ :: rest) :=
 xo_val v rfl hg hN (fun a w ha hw => by
  have h1 := (T.htk _ (look_mem ht)).1 w
  obtain ⟨o, h4, cur, rfl, h5, h6, h7, h8⟩ := hw.bl _ hm
  have h2 : w.cell? ⟨b, k, none⟩ = some v := by
   rw [cell_of_row w b k _ te _ h4, ← Array.getElem?_toList]
   rw [← h8] at hv
   rw [List.getElem?_take] at hv
   split at hv
   ·exact hv
   ·cases hv
  have h3 := ha.ev hx
  rw [hp] at h3
  simp [execOp, h3, Instr.loadAt, Instr.sureAddr, loadVar, h1, h2]) h
theorem xo_storeZ (T : Tys P) {t : TypeId} {p x : Operand} {pa : Addr} {b k m cap sz : Nat} {xs : List Value} {te : TypeId} {v : Value} {η' : Hp} (hg : gS ops σ g = some true) (ht : look t T.tk = some 0) (hp : ev σ p = some (.pointer (some pa))) (hpa : pa = ⟨b, k, none⟩) (hx : ev σ x = some v)
  (hm : (b, true, orow te sz m cap xs) ∈ η) (hv : v.cells = #[v]) (h1 : v.oneCell' = true) (hlt : k < m * sz) (hU : Upd b (orow te sz m cap (xs.set k v)) η η') (hN : dstOK N d = true)
  (h : XO P ro n N ds w0 X Q ops (putS d undef σ) η' rest) : XO P ro n N ds w0 X Q ops σ η (⟨d, .store t p x, ty, pos, aft, g⟩ :: rest) :=
 xo_base rfl hg fun a w ha hw => by
  have h2 : (sizeOf t).run P w = .ok 1 w := (T.htk _ (look_mem ht)).2 w
  obtain ⟨o, h4, cur, rfl, h5, h6, h7, h8⟩ := hw.bl _ hm
  have hkc : k < cur.size := by rw [h7]; exact Nat.lt_of_lt_of_le hlt (Nat.mul_le_mul_right _ h5)
  have hcell : w.cell? ⟨b, k, none⟩ = some (cur[k]'hkc) := by
   rw [cell_of_row w b k _ te _ h4]
   simp [Array.getElem?_eq_getElem hkc]
  have hfz : w.frozen? ⟨b, k, none⟩ = false := frozen_of_row w b k _ te h4
  have hst : (store ⟨b, k, none⟩ v .plain).run P w = .ok () (w.setCell ⟨b, k, none⟩ v) := by
   rw [run_store P w _ v _ h1, hcell]
   simp [hfz]
  have hb' : (w.setCell ⟨b, k, none⟩ v).heap[b]? = some (.cells (cur.setIfInBounds k v) te (0, 0)) := heap_setCell_same w b k _ te v h4
  have h3 := ha.ev hp
  rw [hpa] at h3
  refine ⟨.skip, _, undef, ?_, .inr ⟨rfl, rfl⟩, h _ _ (ha.put hN _) (hw.upd hU (OneB.setCell w b k v) hb' ⟨_, rfl, h5, h6, by simpa using h7, ?_⟩)⟩
  ·simp only [execOp, h3, ha.ev hx, Instr.storeAt, Instr.sureAddr, storeVar, Sem.run_bind, Sem.run_pure, Result.andThen_ok, h2, hv, List.size_toArray, List.length_cons, List.length_nil, ne_eq, not_true_eq_false, ↓reduceIte, storeCells, Addr.add_zero', hst]
  ·rw [Array.toList_setIfInBounds, ← h8, List.take_set]
theorem xq_perm {e : Exit} {η' : Hp} (hp : List.Perm η η') (h : XQ N ds w0 X Q e σ η') : XQ N ds w0 X Q e σ η := fun a w ha hw => h a w ha (hw.perm hp)
theorem xo_appE (T : TysR P) {t e : TypeId} {s x : Operand} {z : Value} {sz by_ k c b0 : Nat} {A : Option Addr} {news : List Value} {η0 : Hp} (hg : gS ops σ g = some true) (ht : look t T.el = some e) (hi : look e T.inf = some (z, sz, by_)) (hzs : z.cells.toList.length = sz) (hsz : Nat.blt 0 sz = true)
  (hs : ev σ s = some (.slice (some ⟨b0, 0, none⟩) 0 0)) (hx : ev σ x = some (.slice A k c)) (hη : η = (b0, true, orow e sz 0 0 []) :: η0) (hn : news.length = k * sz) (hA : A = none → k = 0) (hnews : ∀ p, A = some p → ∀ w, WOK w0 X η w → ∀ j u, news[j]? = some u → w.cell? (p.add j) = some u) (h1 : ∀ u ∈ news, u.oneCell' = true)
  (hb : k * by_ ≤ 140737488355328) (hb0 : Nat.blt 0 by_ = true) (hN : dstOK N d = true)
  (h : ∀ b cap, XO P ro n N ds w0 X Q ops (putS d (.slice (some ⟨b, 0, none⟩) k cap) σ) ((b, true, orow e sz k cap news) :: η0) rest) :
  XO P ro n N ds w0 X Q ops σ η (⟨d, .call { callee := .builtin .append, args := #[s, x], argTypes := #[t, t] }, ty, pos, aft, g⟩ :: rest) := by
 refine xo_appN T (r := some (b0, 0)) (m := 0) (xs := []) (η0 := η0) hg ht hi hzs hsz hs hx (by subst hη; rfl) (by simp) hn hA hnews h1 (fun _ => rfl) (by rw [Nat.zero_add]; exact hb) hb0 hN fun r' hr' => ?_
 rcases r' with _ | ⟨b, cap⟩
 ·exact absurd (hr' rfl).1 (by simp)
 ·rw [Nat.zero_add, List.nil_append]
  exact h b cap
end
theorem pow62 {m : Nat} (h : m ≤ 61) : (2 : Int) ^ m ≤ 2305843009213693952 := by
 have h1 : (2 : Nat) ^ m ≤ 2 ^ 61 := Nat.pow_le_pow_right (by omega) h
 have h2 : ((2 ^ m : Nat) : Int) ≤ ((2 ^ 61 : Nat) : Int) := by exact_mod_cast h1
 simpa using h2
section
variable {P : Program} {ro : Option Nat} {n N : Nat} {ds : List Deferred} {w0 : World} {X : Nat → Prop} {Q : Exit → Act → World → Prop} {σ : Slots} {η : Hp} {ops rest : List Oper} {d : Option Tmp} {ty t t' : TypeId} {pos : String} {aft : Array Edge} {g : Option (Nat × Bool)}
theorem xo_shl1 {x y : Operand} {m : Nat} (hg : gS ops σ g = some true) (hx : ev σ x = some (.int .i64 1)) (hy : ev σ y = some (.int .i64 (m : Int))) (hm : m ≤ 61) (hN : dstOK N d = true)
  (h : XO P ro n N ds w0 X Q ops (putS d (.int .i64 ((2 ^ m : Nat) : Int)) σ) η rest) : XO P ro n N ds w0 X Q ops σ η (⟨d, .binOp .shl t x y t', ty, pos, aft, g⟩ :: rest) :=
 xo_val _ rfl hg hN (fun a w ha hw => by
  have h1 : min (m : Int).toNat IntKind.i64.bits = m := by simp [IntKind.bits]; omega
  have h2 := pow62 hm
  have h3 : (0 : Int) < 2 ^ m := Int.pow_pos (by omega)
  have h4 : IntKind.i64.wrap (2 ^ m) = (2 : Int) ^ m := IntWalk.i64_in _ ⟨by omega, by omega⟩
  simp only [execOp, ha.ev hx, ha.ev hy, eqGuard_shl, binOp_shl, Op.shift, Sem.run_bind, Sem.run_pure, Result.andThen_ok]
  rw [if_neg (by omega), h1]
  simp [h4]) h
theorem xo_shr {x y : Operand} {k m : Nat} (hg : gS ops σ g = some true) (hx : ev σ x = some (.int .i64 (k : Int))) (hy : ev σ y = some (.int .i64 (m : Int))) (hm : m ≤ 61) (hN : dstOK N d = true)
  (h : XO P ro n N ds w0 X Q ops (putS d (.int .i64 ((k / 2 ^ m : Nat) : Int)) σ) η rest) : XO P ro n N ds w0 X Q ops σ η (⟨d, .binOp .shr t x y t', ty, pos, aft, g⟩ :: rest) :=
 xo_val _ rfl hg hN (fun a w ha hw => by
  have h1 : min (m : Int).toNat IntKind.i64.bits = m := by simp [IntKind.bits]; omega
  have h3 : Int.fdiv (k : Int) (2 ^ m) = ((k / 2 ^ m : Nat) : Int) := by
   rw [Int.fdiv_eq_ediv_of_nonneg _ (by exact Int.le_of_lt (Int.pow_pos (by omega)))]
   simp
  simp only [execOp, ha.ev hx, ha.ev hy, eqGuard_shr, binOp_shr, Op.shift, Sem.run_bind, Sem.run_pure, Result.andThen_ok]
  rw [if_neg (by omega), h1]
  simp [h3]) h
theorem xo_and1 {x y : Operand} {k : Nat} (hg : gS ops σ g = some true) (hx : ev σ x = some (.int .i64 (k : Int))) (hy : ev σ y = some (.int .i64 1)) (hk : k < 9223372036854775808) (hN : dstOK N d = true)
  (h : XO P ro n N ds w0 X Q ops (putS d (.int .i64 ((k % 2 : Nat) : Int)) σ) η rest) : XO P ro n N ds w0 X Q ops σ η (⟨d, .binOp .and t x y t', ty, pos, aft, g⟩ :: rest) :=
 xo_val _ rfl hg hN (fun a w ha hw => by
  simp only [execOp, ha.ev hx, ha.ev hy, eqGuard_and, binOp_and, Op.intBits, Sem.run_bind, Sem.run_pure, Result.andThen_ok]
  have h1 : (BitVec.ofInt IntKind.i64.bits (k : Int) &&& BitVec.ofInt IntKind.i64.bits 1).toNat = k % 2 := by
   rw [BitVec.toNat_and]
   simp only [BitVec.toNat_ofInt, IntKind.bits]
   rw [show ((k : Int) % ((2 ^ 64 : Nat) : Int)).toNat = k by omega, show ((1 : Int) % ((2 ^ 64 : Nat) : Int)).toNat = 1 by decide, Nat.and_one_is_mod]
  have h2 : IntKind.i64.wrap ((k % 2 : Nat) : Int) = ((k % 2 : Nat) : Int) := IntWalk.i64_in _ ⟨by omega, by omega⟩
  rw [h1, h2]) h
end
def RowV (e : TypeId) (base : Nat) (w : World) (r : RowR) (xs : List Value) : Prop := (r = none → xs = []) ∧ ∀ p, r = some p → base ≤ p.1 ∧ ∃ o, w.heap[p.1]? = some o ∧ orow e 1 xs.length p.2 xs o
theorem WOK.rowV {w0 : World} {X : Nat → Prop} {η : Hp} {w w' : World} (h : WOK w0 X η w) (hb : Below w.heap.size w w') {e : TypeId} {r : RowR} {xs : List Value} (hr : RowV e w.heap.size w' r xs) : WOK w0 X (hpR e 1 r xs.length xs ++ η) w' := by
 cases r with
 | none => exact h.below hb
 | some p =>
  obtain ⟨h1, o, h2, h3⟩ := hr.2 p rfl
  exact h.more hb h1 h2 h3
theorem RowV.of {w0 : World} {η : Hp} {w : World} {e : TypeId} {r : RowR} {xs : List Value} (h : WOK w0 XNone (hpR e 1 r xs.length xs ++ η) w) (h0 : r = none → xs = []) : RowV e w0.heap.size w r xs := by
 refine ⟨h0, fun p hp => ?_⟩
 subst hp
 exact ⟨h.own (List.Mem.head _), h.bl (p.1, true, orow e 1 xs.length p.2 xs) (List.Mem.head _)⟩
end Go.Proofs.YtommeljlfkmpjaaDoor
namespace Go.Proofs.YtommeljlfkmpjaaDoor
open Go.RowKit Go.MapKept
theorem erase_kv (x : Int) : ∀ (l : List (Int × Value)) (es : List MapEntry) (i : Nat) (j : Nat) (u : Value), es.map kvE = l.map kvI → Instr.findNow (.int .i64) (.int .i64 x) es i = some (some (i + j, u)) →
  (es.eraseIdx j).map kvE = (imDel x l).map kvI
 | [], [], i, j, u, _, h => by simp [Instr.findNow] at h
 | [], _ :: _, _, _, _, h, _ => by simp at h
 | _ :: _, [], _, _, _, h, _ => by simp at h
 | p :: r, e :: es, i, j, u, h, hf => by
  simp only [List.map_cons, List.cons.injEq] at h
  obtain ⟨h1, h2⟩ := h
  have hk : e.key = .int .i64 p.1 := congrArg Prod.fst h1
  by_cases hx : p.1 = x
  ·have : j = 0 := by
    simp [Instr.findNow, Instr.sameNow, hk, hx] at hf
    omega
   subst this
   simp [imDel, hx, h2]
  ·have hx' : (x == p.1) = false := by simpa using fun h => hx h.symm
   simp only [Instr.findNow, Instr.sameNow, hk, ↓reduceIte, hx'] at hf
   cases j with
   | zero =>
    exfalso
    rcases findNow_l x r es (i + 1) h2 with ⟨_, h3⟩ | ⟨j', v', e', _, h3, _, _⟩
    ·rw [h3] at hf; simp at hf
    ·rw [h3] at hf; simp at hf; omega
   | succ j =>
    have ih := erase_kv x r es (i + 1) j u h2 (by rw [hf]; congr 2; simp; omega)
    simp [imDel, hx, h1, ih]
theorem imDel_none (x : Int) : ∀ l : List (Int × Value), imGet x l = none → imDel x l = l
 | [], _ => rfl
 | p :: r, h => by
  by_cases hx : p.1 = x
  ·simp [imGet, hx] at h
  ·simp only [imGet, hx, if_false] at h
   simp only [imDel, hx, if_false]
   rw [imDel_none x r h]
theorem imDel_sub (x : Int) : ∀ l : List (Int × Value), (imDel x l).Sublist l
 | [] => List.Sublist.refl _
 | p :: r => by
  by_cases hx : p.1 = x
  ·simp only [imDel, hx, if_true]; exact List.sublist_cons_self _ _
  ·simp only [imDel, hx, if_false]; exact (imDel_sub x r).cons_cons p
section
variable {P : Program} {w : World} {t k e : TypeId} {b : Nat} {l : List (Int × Value)}
theorem IMap.del (h : IMap w b l) (ht : P.underlying t = some (.map k e)) (hk : P.underlying k = some (.int .i64)) (ty tk : TypeId) (x : Int) :
  ∃ o : Obj, (Builtin.delete_ #[t, tk] ty #[.map (some b), .int .i64 x]).run P w = .ok (.tuple #[]) (w.putObj b o) ∧ IMap (w.putObj b o) b (imDel x l) := by
 have hlt := h.lt
 obtain ⟨es, c, hb, hE⟩ := h
 have hkey : IsKey (.int .i64) (.int .i64 x) := rfl
 rcases findNow_l x l es.toList 0 hE.is with ⟨h1, h2⟩ | ⟨j, u, e', h1, h2, h3, h4⟩
 ·refine ⟨.map es c, ?_, _, _, World.putObj_heap_same hlt, by rw [imDel_none x l h1]; exact hE⟩
  simp [Builtin.delete_, run_underlying ht, MapKept.run_getObj_map hb, run_checkKey hk hkey, run_findKey hk h2, MapKept.run_setObj_map _ hb, Result.andThen, World.putObj]
 ·refine ⟨.map (es.eraseIdxIfInBounds j) c, ?_, _, _, World.putObj_heap_same hlt, ?_⟩
  ·simp [Builtin.delete_, run_underlying ht, MapKept.run_getObj_map hb, run_checkKey hk hkey, run_findKey hk h2, MapKept.run_setObj_map _ hb, Result.andThen, World.putObj]
  ·have htl : (es.eraseIdxIfInBounds j).toList = es.toList.eraseIdx j := by simp
   have hsub : ((es.eraseIdxIfInBounds j).toList).Sublist es.toList := by rw [htl]; exact List.eraseIdx_sublist ..
   exact ⟨by rw [htl]; exact erase_kv x l es.toList 0 j u hE.is (by simpa using h2), hE.keys.sublist ((imDel_sub x l).map _), fun e he => hE.born e (hsub.subset he), hE.once.sublist (hsub.map _)⟩
end
def delN (x : Int) (s : List Int) : List Int := s.erase x
theorem imDel_setV (x : Int) : ∀ s : List Int, imDel x (setV s) = setV (delN x s)
 | [] => rfl
 | y :: s => by
  have ih := imDel_setV x s
  unfold setV delN at *
  by_cases e : y = x
  ·subst e; simp [imDel]
  ·rw [List.erase_cons_tail (by simpa using e)]
   simp only [List.map_cons, imDel, e, if_false, ih]
section
variable {P : Program} {ro : Option Nat} {n N : Nat} {ds : List Deferred} {w0 : World} {X : Nat → Prop} {Q : Exit → Act → World → Prop} {σ : Slots} {η : Hp} {ops rest : List Oper} {d : Option Tmp} {ty : TypeId} {pos : String} {aft : Array Edge} {g : Option (Nat × Bool)}
theorem xo_sdel (T : Tys P) {t tk te tk' : TypeId} {m x : Operand} {b : Nat} {s : List Int} {k : Int} {η' : Hp} (hg : gS ops σ g = some true) (ht : look t T.mp = some (tk, te)) (hk : look tk T.ik = some .i64) (hm : ev σ m = some (.map (some b))) (hx : ev σ x = some (.int .i64 k)) (hb : (b, true, hmap (setV s)) ∈ η)
  (hU : Upd b (hmap (setV (delN k s))) η η') (hN : dstOK N d = true) (h : XO P ro n N ds w0 X Q ops (putS d (.tuple #[]) σ) η' rest) :
  XO P ro n N ds w0 X Q ops σ η (⟨d, .call { callee := .builtin .delete, args := #[m, x], argTypes := #[t, tk'] }, ty, pos, aft, g⟩ :: rest) :=
 xo_base rfl hg fun a w ha hw => by
  obtain ⟨o, h1, h2⟩ := (hw.imap hb).del (T.hmp _ (look_mem ht)) (T.hik _ (look_mem hk)) ty tk' k
  rw [imDel_setV] at h2
  obtain ⟨o', h3, h4⟩ := hmap_of h2
  refine ⟨.value (.tuple #[]), _, _, ?_, .inl rfl, h _ _ (ha.put hN _) (hw.upd hU (OneB.putObj w b o) h3 h4)⟩
  simp only [execOp, resolve, invoke, builtin, Sem.run_bind, Sem.run_pure, Result.andThen_ok, List.map_toArray, List.map_cons, List.map_nil, ha.ev hm, ha.ev hx, h1]
end
end Go.Proofs.YtommeljlfkmpjaaDoor
namespace Go.Proofs.YtommeljlfkmpjaaDoor
open Go.RowKit
def IterS (P : Program) (g : Nat) (cs : List Value) (wB : World) (need : Nat → Prop) (S : List Int → Prop) (M : Nat) : Prop :=
 ∀ (w : World), wB.heap.size ≤ w.heap.size → (∀ k, need k → w.heap[k]? = wB.heap[k]?) → ∀ (K : Nat → Prop), (∀ k, need k → K k) → ∀ m : Nat,
  SeqStopsK Fence.wide m P g cs.toArray (fun x : Int => #[.int .i64 x]) (KpK K w.heap.size) S (fun _ => True) M w
section
variable {P : Program} {n N : Nat} {ds : List Deferred} {w0 : World} {Q : Exit → Act → World → Prop} {σ : Slots} {η : Hp}
theorem xc_rangeS {go : Operand} {p : Tmp} {assign body : Code} {gf : Nat} {cs : List Value} {S : List Int → Prop} {M : Nat} (hn : 3 ≤ n) (hg : ev σ go = some (.func (.func gf) #[] cs.toArray)) (eg : ∀ args w, (callFunc gf args).run P w = .ok (.enter gf args) w) (hp : Nat.blt p N = true)
  (K : Nat → Prop) (hKlt : ∀ w, WOK w0 XNone η w → ∀ k, K k → k < w.heap.size) (hseq : ∀ w, WOK w0 XNone η w → SeqStopsK Fence.wide (n - 1) P gf cs.toArray (fun x : Int => #[.int .i64 x]) (KpK K w.heap.size) S (fun _ => True) M w)
  {γ : Type} (C : List Int → γ → Prop) (H : List Int → γ → Hp) (g0 : γ) (hC0 : C [] g0) (hH0 : List.Sublist (H [] g0) η)
  (hcell : ∀ ys g, C ys g → ∀ e ∈ H ys g, (∀ o, e.2.2 o → o.isCells = true) ∨ ∃ e' ∈ η, e'.1 = e.1) (hwr : ∀ ys g, C ys g → ∀ e ∈ H ys g, e.2.1 = true → ¬ K e.1) (S1 : Int → Slots)
  (hassign : ∀ l x W, XC P (some l) (n - 1 - 1) N [] W XNone (Exit.then (fun a w => SOK N [] (S1 x) a ∧ Kx XNone W w) (fun _ _ _ => False)) ((p, .int .i64 x) :: σ) [] assign)
  (hbody : ∀ l ys x g W, C ys g → ys.length < M → WOK w0 XNone (H ys g) W → XC P (some l) (n - 1 - 1) N [] W (XW (H ys g)) (RoundPost N W (H ys g) fun w => ∃ g', C (ys ++ [x]) g' ∧ WOK W (XW (H ys g)) (H (ys ++ [x]) g') w) (S1 x) (H ys g) body)
  (hdone : ∀ D xs g, S xs → C xs g → XQ N (mark_ D :: ds) w0 XNone Q .normal σ ((D, true, hdef) :: H xs g)) : XC P none n N ds w0 XNone Q σ η (.rangeFunc go #[p] assign body) := by
 intro a w ha hw
 have hlt : ∀ e ∈ η, e.1 < w.heap.size := fun e he => hw.lt he
 have hsz := hw.kx.size
 -- the relation abides what the loop's own records do
 have hI : OwnFrom w.heap.size (fun (ys : List Int) W => w.heap.size ≤ W.heap.size ∧ ∃ g, C ys g ∧ WOK w0 XNone (H ys g) W) := by
  rintro ys A B row ⟨hszA, g, hg', hA⟩ hgr hrow
  have hne : ∀ e ∈ H ys g, some e.1 ≠ row := fun e he q => by
   obtain ⟨h1, o, h2, h3⟩ := hrow e.1 q.symm
   obtain ⟨o', h4, h5⟩ := hA.bl e he
   rw [h4] at h2
   cases h2
   rcases hcell ys g hg' e he with h6 | ⟨e', h6, h7⟩
   ·rw [h6 _ h5] at h3; cases h3
   ·have := hlt e' h6; omega
  refine ⟨Nat.le_trans hszA hgr.size, g, hg', ⟨hgr.os.trans hA.kx.os, hgr.tape.trans hA.kx.tape, hgr.output.trans hA.kx.output, Nat.le_trans hA.kx.size hgr.size, fun k hk hx => (hgr.block k (Nat.lt_of_lt_of_le hk hA.kx.size) (fun q => ?_)).trans (hA.kx.block k hk hx)⟩, ?_, hA.nd, hA.ow⟩
  ·obtain ⟨h1, _⟩ := hrow k q.symm
   omega
  ·intro e he
   obtain ⟨o, h1, h2⟩ := hA.bl e he
   exact ⟨o, (hgr.block _ (hA.lt he) (hne e he)).trans h1, h2⟩
 refine wpIn_rangeFunc_ownH (F := wideR none) (w := w) (w0 := w) rfl (by omega) (gf := gf) (lb := cs.toArray) (ha.ev hg) trivial eg (hseq w hw) (fun h k => h.trans k) ?_ (Below.refl _ _) (fun _ => rfl)
  (fun ys W => w.heap.size ≤ W.heap.size ∧ ∃ g, C ys g ∧ WOK w0 XNone (H ys g) W) (fun _ _ _ => False) hI (fun _ _ _ _ _ h _ _ => h) ⟨Nat.le_refl _, g0, hC0, hw.sub hH0⟩
  (fun x a' W => SOK N [] (S1 x) a') (fun x a' _ _ _ _ h _ _ => h) ?_ ?_ ?_ ?_
 ·intro W l o o' hl ho hnc hnw
  refine ⟨fun k hk => World.putObj_heap_other (fun e => ?_), by simp, fun k o1 hk h1 h2 => (World.putObj_heap_other (fun e => ?_)).trans h1⟩
  ·have := hKlt w hw k hk; omega
  ·subst e
   rw [ho] at h1
   cases h1
   rw [hnw] at h2
   cases h2
 ·rintro l pre x W K' ⟨hszW, g, hg', hA⟩ hk
  have hs : SOK N [] ((p, .int .i64 x) :: σ) { tmps := ((#[p] : Array Tmp).zip #[Value.int .i64 x]).foldl (fun t (q : Tmp × Value) => t.setIfInBounds q.1 q.2) a.tmps, defers := [] } := by
   have h1 := ha.put (d := some p) (by simpa [dstOK] using hp) (.int .i64 x)
   exact ⟨by simpa [Act.put] using h1.sz, fun i v hv => by simpa [Act.put] using h1.sl i v hv, rfl⟩
  refine wpIn_mono (hassign l x W _ W hs (WOK.start XNone W)) ?_
  intro e a' w' hq
  cases e with
  | normal =>
   obtain ⟨h1, h2⟩ := hq
   have hb := h2.below
   exact hk a' w' ⟨hb.size, fun k o _ ho _ => (hb.block k (Array.getElem?_eq_some_iff.1 ho).1).trans ho⟩ ⟨fun k hK => hb.block k (Nat.lt_of_lt_of_le (hKlt w hw k hK) hszW), hb.size, fun k o _ ho _ => (hb.block k (Array.getElem?_eq_some_iff.1 ho).1).trans ho⟩ ⟨Nat.le_trans hszW hb.size, g, hg', hA.below hb⟩ h1
  | exit id => exact hq
  | goto l => exact hq
  | ret => exact hq
  | panic c => exact hq
  | outgrown => exact hq
 ·rintro l pre x a' W hl _ ⟨hszW, g, hg', hA⟩ hax hlen
  have hxw : ∀ k o, w.heap.size ≤ k → W.heap[k]? = some o → o.isCells = false → ¬ XW (H pre g) k := by
   rintro k o hk ho hnc ⟨e, he, hwr', rfl⟩
   obtain ⟨o', h4, h5⟩ := hA.bl e he
   rw [ho] at h4
   cases h4
   rcases hcell pre g hg' e he with h6 | ⟨e', h6, h7⟩
   ·rw [h6 _ h5] at hnc; cases hnc
   ·have := hlt e' h6; omega
  refine wpIn_mono (hbody l pre x g W hg' hlen hA a' W hax hA.wok) ?_
  intro e a1 w' hq
  cases e with
  | normal =>
   obtain ⟨g', hg2, h2⟩ := hq
   refine ⟨⟨h2.kx.size, fun k o hk ho hnc => (h2.kx.block k (Array.getElem?_eq_some_iff.1 ho).1 (hxw k o hk ho hnc)).trans ho⟩, ⟨fun k hK => h2.kx.block k (Nat.lt_of_lt_of_le (hKlt w hw k hK) hszW) ?_, h2.kx.size, fun k o hk ho hwk => (h2.kx.block k (Array.getElem?_eq_some_iff.1 ho).1 (hxw k o hk ho ?_)).trans ho⟩, Nat.le_trans hszW h2.kx.size, g', hg2, hA.back h2⟩
   ·rintro ⟨e, he, hw1, rfl⟩
    exact hwr pre g hg' e he hw1 hK
   ·cases o <;> first | rfl | cases hwk
  | exit id => exact hq.elim
  | goto l => exact hq.elim
  | ret => exact hq.elim
  | panic c => exact hq.elim
  | outgrown => exact hq.elim
 ·rintro D ys W hD hS ⟨hszW, g, hg', hA⟩ hdf
  refine hdone D ys g hS hg' _ W ⟨ha.sz, ha.sl, by rw [ha.df]; rfl⟩ ⟨hA.kx, ?_, ?_, ?_⟩
  ·intro e he
   rcases List.mem_cons.1 he with rfl | he
   ·exact ⟨_, hdf, rfl⟩
   ·exact hA.bl e he
  ·simp only [List.map_cons, List.nodup_cons]
   refine ⟨fun hm => ?_, hA.nd⟩
   obtain ⟨e, he, q⟩ := List.mem_map.1 hm
   obtain ⟨o', h4, h5⟩ := hA.bl e he
   rw [q, hdf] at h4
   cases h4
   rcases hcell ys g hg' e he with h6 | ⟨e', h6, h7⟩
   ·have := h6 _ h5; cases this
   ·have := hlt e' h6; omega
  ·intro e he hw1
   rcases List.mem_cons.1 he with rfl | he
   ·exact .inl (Nat.le_trans hsz hD)
   ·exact hA.ow e he hw1
 ·intro D c pre W hD _ h _; exact h.elim
end
end Go.Proofs.YtommeljlfkmpjaaDoor
namespace Go.Proofs.YtommeljlfkmpjaaDoor
open Go.RowKit Go.MapKept
def hmapE (es : Array MapEntry) (c : Nat) : HP := fun o => o = .map es c
def hiter (b c : Nat) (seen : Array Nat) : HP := fun o => o = .mapIter (some b) c seen c
inductive Rep (b : Nat) (φ' : HP) : Hp → Hp → Prop
 | head {wr : Bool} {φ : HP} {r : Hp} : Rep b φ' ((b, wr, φ) :: r) ((b, wr, φ') :: r)
 | tail {e : Nat × Bool × HP} {r r' : Hp} (h : Rep b φ' r r') : Rep b φ' (e :: r) (e :: r')
theorem Rep.app {b : Nat} {φ' : HP} {r r' : Hp} (h : Rep b φ' r r') : ∀ l : Hp, Rep b φ' (l ++ r) (l ++ r')
 | [] => h
 | e :: l => .tail (h.app l)
theorem Rep.keys {b : Nat} {φ' : HP} {η η' : Hp} (h : Rep b φ' η η') : η'.map (·.1) = η.map (·.1) := by
 induction h with
 | head => rfl
 | tail _ ih => simp [ih]
theorem Rep.mem {b : Nat} {φ' : HP} {η η' : Hp} (h : Rep b φ' η η') : ∀ e ∈ η', (∃ wr φ, e = (b, wr, φ') ∧ (b, wr, φ) ∈ η) ∨ e ∈ η := by
 induction h with
 | @head wr φ r =>
  intro e he
  rcases List.mem_cons.1 he with rfl | he
  ·exact .inl ⟨wr, φ, rfl, List.mem_cons_self ..⟩
  ·exact .inr (List.mem_cons_of_mem _ he)
 | tail _ ih =>
  intro e he
  rcases List.mem_cons.1 he with rfl | he
  ·exact .inr (List.mem_cons_self ..)
  ·rcases ih e he with ⟨wr, φ, h1, h2⟩ | h1
   ·exact .inl ⟨wr, φ, h1, List.mem_cons_of_mem _ h2⟩
   ·exact .inr (List.mem_cons_of_mem _ h1)
theorem WOK.rep {w0 : World} {X : Nat → Prop} {η η' : Hp} {w : World} (h : WOK w0 X η w) {b : Nat} {φ' : HP} (hR : Rep b φ' η η') {o : Obj} (ho : w.heap[b]? = some o) (hφ : φ' o) : WOK w0 X η' w := by
 refine ⟨h.kx, fun e he => ?_, by rw [hR.keys]; exact h.nd, fun e he hw => ?_⟩
 ·rcases hR.mem e he with ⟨wr, φ, rfl, _⟩ | he
  ·exact ⟨o, ho, hφ⟩
  ·exact h.bl e he
 ·rcases hR.mem e he with ⟨wr, φ, rfl, hm⟩ | he
  ·exact h.ow (b, wr, φ) hm hw
  ·exact h.ow e he hw
section
variable {P : Program} {ro : Option Nat} {n N : Nat} {ds : List Deferred} {w0 : World} {X : Nat → Prop} {Q : Exit → Act → World → Prop} {σ : Slots} {η : Hp} {ops rest : List Oper} {d : Option Tmp} {ty : TypeId} {pos : String} {aft : Array Edge} {g : Option (Nat × Bool)}
theorem xo_rangeM (T : Tys P) {t tk te : TypeId} {m : Operand} {b : Nat} {wr : Bool} {l : List (Int × Value)} {η' : Array MapEntry → Nat → Hp} (hg : gS ops σ g = some true) (ht : look t T.mp = some (tk, te)) (hm : ev σ m = some (.map (some b))) (hb : (b, wr, hmap l) ∈ η) (hR : ∀ es c, Rep b (hmapE es c) η (η' es c)) (hN : dstOK N d = true)
  (h : ∀ r es c, Ents es c l → XO P ro n N ds w0 X Q ops (putS d (.pointer (some ⟨r, 0, none⟩)) σ) ((r, true, hiter b c #[]) :: η' es c) rest) : XO P ro n N ds w0 X Q ops σ η (⟨d, .range t m, ty, pos, aft, g⟩ :: rest) :=
 xo_base rfl hg fun a w ha hw => by
  obtain ⟨o, h1, es, c, rfl, hE⟩ := hw.bl _ hb
  have hw' := hw.rep (hR es c) h1 (φ' := hmapE es c) rfl
  refine ⟨_, w.alloc (.mapIter (some b) c #[] c), .pointer (some ⟨w.heap.size, 0, none⟩), ?_, .inl rfl, h w.heap.size es c hE _ _ (ha.put hN _) (hw'.alloc _ _ rfl)⟩
  have := run_range_map (P := P) w t tk te b es c (T.hmp _ (look_mem ht)) h1
  simp only [execOp, ha.ev hm, Sem.run_bind, this, Result.andThen_ok, Sem.run_pure]
theorem xo_next {x : Operand} {r b c : Nat} {wr : Bool} {es : Array MapEntry} {seen : Array Nat} {l : List (Int × Value)} {η' : Array Nat → Hp} (hg : gS ops σ g = some true) (hx : ev σ x = some (.pointer (some ⟨r, 0, none⟩))) (hr : (r, true, hiter b c seen) ∈ η) (hb : (b, wr, hmapE es c) ∈ η) (hE : Ents es c l) (hU : ∀ seen', Upd r (hiter b c seen') η (η' seen')) (hN : dstOK N d = true)
  (h0 : (∀ e ∈ es.toList, seen.contains e.born = true) → XO P ro n N ds w0 X Q ops (putS d (.tuple #[.bool false]) σ) η rest)
  (h1 : ∀ e ∈ es.toList, seen.contains e.born = false → XO P ro n N ds w0 X Q ops (putS d (.tuple #[.bool true, e.key, e.val]) σ) (η' (seen.push e.born)) rest) : XO P ro n N ds w0 X Q ops σ η (⟨d, .next x false, ty, pos, aft, g⟩ :: rest) :=
 xo_base rfl hg fun a w ha hw => by
  obtain ⟨o, h2, h3⟩ := hw.bl _ hr
  obtain ⟨o', h4, h5⟩ := hw.bl _ hb
  subst h3
  subst h5
  rcases run_next_at (P := P) w ty r b c c seen es c h2 h4 hE.born (Nat.le_refl _) with ⟨h6, hrun⟩ | ⟨e, he, w1, hw1, hrun⟩
  ·refine ⟨_, w, .tuple #[.bool false], ?_, .inl rfl, h0 (fun e he => ?_) _ _ (ha.put hN _) hw⟩
   ·simp only [execOp, ha.ev hx, Sem.run_bind, hrun, Result.andThen_ok, Sem.run_pure]
   ·have : leftOf es seen = #[] := Array.eq_empty_of_size_eq_zero h6
    cases hc : seen.contains e.born with
    | true => rfl
    | false =>
     have hm : e ∈ (leftOf es seen).toList := by unfold leftOf; rw [Array.toList_filter, List.mem_filter]; exact ⟨he, by rw [hc]; rfl⟩
     rw [this] at hm
     simp at hm
  ·unfold leftOf at he
   rw [Array.toList_filter, List.mem_filter] at he
   have hlt := hw.lt hr
   have hw1' : WOK w0 X η w1 := by
    rcases hw1 with rfl | rfl
    ·exact hw
    ·exact hw.drew
   have hsz : r < w1.heap.size := by rcases hw1 with rfl | rfl <;> exact hlt
   refine ⟨_, w1.putObj r (.mapIter (some b) c (seen.push e.born) c), .tuple #[.bool true, e.key, e.val], ?_, .inl rfl, h1 e he.1 (by simpa using he.2) _ _ (ha.put hN _) (hw1'.upd (hU _) (OneB.putObj w1 r _) (World.putObj_heap_same hsz) rfl)⟩
   simp only [execOp, ha.ev hx, Sem.run_bind, hrun, Result.andThen_ok, Sem.run_pure]
   rfl
theorem xo_entry {x : Operand} {r b c : Nat} {wr wr' : Bool} {es : Array MapEntry} {seen : Array Nat} {l : List (Int × Value)} {e : MapEntry} (hg : gS ops σ g = some true) (hx : ev σ x = some (.pointer (some ⟨r, 0, none⟩))) (hr : (r, wr', hiter b c (seen.push e.born)) ∈ η) (hb : (b, wr, hmapE es c) ∈ η) (hE : Ents es c l) (he : e ∈ es.toList) (hN : dstOK N d = true)
  (h : XO P ro n N ds w0 X Q ops (putS d (.tuple #[e.key, e.val]) σ) η rest) : XO P ro n N ds w0 X Q ops σ η (⟨d, .entry x, ty, pos, aft, g⟩ :: rest) :=
 xo_val _ rfl hg hN (fun a w ha hw => by
  obtain ⟨o, h2, h3⟩ := hw.bl _ hr
  obtain ⟨o', h4, h5⟩ := hw.bl _ hb
  subst h3
  subst h5
  have := run_entry_at (P := P) w r b c seen es c e h2 h4 he hE.once
  simp only [execOp, ha.ev hx, Sem.run_bind, this, Result.andThen_ok, Sem.run_pure]) h
end
theorem Ents.setV {es : Array MapEntry} {c : Nat} {s : List Int} (h : Ents es c (setV s)) {e : MapEntry} (he : e ∈ es.toList) : ∃ k, k ∈ s ∧ e.key = .int .i64 k ∧ e.val = .bool true := by
 have h1 : kvE e ∈ es.toList.map kvE := List.mem_map_of_mem he
 rw [h.is, Go.Proofs.YtommeljlfkmpjaaDoor.setV, List.map_map] at h1
 obtain ⟨k, hk, h2⟩ := List.mem_map.1 h1
 exact ⟨k, hk, (congrArg Prod.fst h2).symm, (congrArg Prod.snd h2).symm⟩
end Go.Proofs.YtommeljlfkmpjaaDoor
namespace Go.Proofs.YtommeljlfkmpjaaDoor
open Go.RowKit Go.MapKept
section
variable {P : Program} {ro : Option Nat} {n N : Nat} {ds : List Deferred} {w0 : World} {X : Nat → Prop} {Q : Exit → Act → World → Prop} {σ : Slots} {η : Hp} {ops rest : List Oper} {d : Option Tmp} {ty : TypeId} {pos : String} {aft : Array Edge} {g : Option (Nat × Bool)}
theorem xo_nilck {x : Operand} {p : Addr} (hg : gS ops σ g = some true) (hx : ev σ x = some (.pointer (some p))) (hN : dstOK N d = true) (h : XO P ro n N ds w0 X Q ops (putS d (.pointer (some p)) σ) η rest) :
  XO P ro n N ds w0 X Q ops σ η (⟨d, .nilCheck x, ty, pos, aft, g⟩ :: rest) :=
 xo_val _ rfl hg hN (fun a w ha hw => by simp [execOp, ha.ev hx]) h
theorem xo_iaA (T : Tys P) {t e : TypeId} {m k0 : Nat} {x ix : Operand} {p : Addr} {k : IntKind} {i : Int} (hg : gS ops σ g = some true) (hu : P.underlying t = some (.array m e)) (hk : look e T.tk = some k0) (hx : ev σ x = some (.pointer (some p))) (hi : ev σ ix = some (.int k i))
  (hb : 0 ≤ i ∧ i < (m : Int)) (hN : dstOK N d = true) (h : XO P ro n N ds w0 X Q ops (putS d (.pointer (some (p.add (i.toNat * szN k0)))) σ) η rest) : XO P ro n N ds w0 X Q ops σ η (⟨d, .indexAddr t x ix, ty, pos, aft, g⟩ :: rest) := by
 refine xo_val _ rfl hg hN (fun a w ha hw => ?_) h
 have h2 := (T.htk _ (look_mem hk)).2 w
 have hel : P.elem t = e := by simp [Program.elem, hu]
 have hal : P.arrayLen t = m := by simp [Program.arrayLen, hu]
 have := run_indexAt_array (P := P) (w := w) t p k i (by rw [hel, hal]; exact hu)
 rw [hal, if_pos hb, hel, h2] at this
 simp only [Result.andThen_ok] at this
 simp [execOp, ha.ev hx, ha.ev hi, this, szN]
theorem xc_sub {c : Code} {η' : Hp} (hs : List.Sublist η' η) (h : XC P ro n N ds w0 X Q σ η' c) : XC P ro n N ds w0 X Q σ η c := fun a w ha hw => h a w ha (hw.sub hs)
theorem xq_sub {e : Exit} {η' : Hp} (hs : List.Sublist η' η) (h : XQ N ds w0 X Q e σ η') : XQ N ds w0 X Q e σ η := fun a w ha hw => h a w ha (hw.sub hs)
theorem WOK.join {η ζ : Hp} {w w' : World} (h : WOK w0 X η w) (k : WOK w XNone ζ w') (hz : ∀ e ∈ ζ, e.2.1 = true) : WOK w0 X (ζ ++ η) w' := by
 have hb := h.below k.kx.below
 have hfr : ∀ e ∈ ζ, w.heap.size ≤ e.1 := fun e he => (k.ow e he (hz e he)).resolve_right (fun q => q)
 refine ⟨hb.kx, fun e he => ?_, ?_, fun e he hw => ?_⟩
 ·rcases List.mem_append.1 he with he | he
  ·exact k.bl e he
  ·exact hb.bl e he
 ·rw [List.map_append, List.nodup_append]
  refine ⟨k.nd, hb.nd, fun a ha b hb' e => ?_⟩
  obtain ⟨x, hx, rfl⟩ := List.mem_map.1 ha
  obtain ⟨y, hy, rfl⟩ := List.mem_map.1 hb'
  have h1 := hfr x hx
  have h2 := h.lt hy
  omega
 ·rcases List.mem_append.1 he with he | he
  ·exact .inl (Nat.le_trans h.kx.size (hfr e he))
  ·exact hb.ow e he hw
end
end Go.Proofs.YtommeljlfkmpjaaDoor
namespace Go.Proofs.YtommeljlfkmpjaaDoor.Q
open Go.RowKit
end Go.Proofs.YtommeljlfkmpjaaDoor.Q
namespace Go.Proofs.YtommeljlfkmpjaaDoor.Q
def T_ : Tys Tryd.prog := ⟨Go.Proofs.YtommeljlfkmpjaaDoor.T_.mixed, Go.Proofs.YtommeljlfkmpjaaDoor.T_.tk, Go.Proofs.YtommeljlfkmpjaaDoor.T_.htk, Go.Proofs.YtommeljlfkmpjaaDoor.T_.zs, Go.Proofs.YtommeljlfkmpjaaDoor.T_.hzs, Go.Proofs.YtommeljlfkmpjaaDoor.T_.fo, Go.Proofs.YtommeljlfkmpjaaDoor.T_.hfo, Go.Proofs.YtommeljlfkmpjaaDoor.T_.el, Go.Proofs.YtommeljlfkmpjaaDoor.T_.hel, Go.Proofs.YtommeljlfkmpjaaDoor.T_.ik, Go.Proofs.YtommeljlfkmpjaaDoor.T_.hik, Go.Proofs.YtommeljlfkmpjaaDoor.T_.mp, Go.Proofs.YtommeljlfkmpjaaDoor.T_.hmp⟩
end Go.Proofs.YtommeljlfkmpjaaDoor.Q
namespace Go.Proofs.YtommeljlfkmpjaaDoor
open Go.RowKit Go.Proofs.YtommeljlfkmpjaaDoorW.PrintWords
structure S55 where
 f0 : Int
 f1 : Int
def z55 : S55 := ⟨(0 : Int), (0 : Int)⟩
def k55 : Kd S55 := Kd.iso (Kd.pair (Kd.int .i64) (Kd.int .i64)) (fun x : S55 => (x.f0, x.f1))
theorem k55_open {w : World} {x : S55} {cs : List Value} (h : k55.K w x cs) : cs = [.int .i64 x.f0, .int .i64 x.f1] := by
 obtain ⟨_, _, rfl, rfl, rfl⟩ := h
 exact rfl
theorem k55_mk (w : World) (x : S55)  : k55.K w x [.int .i64 x.f0, .int .i64 x.f1] := ⟨[.int .i64 x.f0], [.int .i64 x.f1], rfl, rfl, rfl⟩
structure S57 where
 f0 : Int
 f1 : Int
 f2 : S55
def z57 : S57 := ⟨(0 : Int), (0 : Int), z55⟩
def k57 : Kd S57 := Kd.iso (Kd.pair (Kd.int .i64) (Kd.pair (Kd.int .i64) k55)) (fun x : S57 => (x.f0, x.f1, x.f2))
theorem k57_open {w : World} {x : S57} {cs : List Value} (h : k57.K w x cs) : cs = [.int .i64 x.f0, .int .i64 x.f1, .int .i64 x.f2.f0, .int .i64 x.f2.f1] := by
 obtain ⟨_, _, rfl, rfl, ⟨_, _, rfl, rfl, s2⟩⟩ := h
 obtain rfl := k55_open s2
 exact rfl
theorem k57_mk (w : World) (x : S57)  : k57.K w x [.int .i64 x.f0, .int .i64 x.f1, .int .i64 x.f2.f0, .int .i64 x.f2.f1] := ⟨[.int .i64 x.f0], [.int .i64 x.f1, .int .i64 x.f2.f0, .int .i64 x.f2.f1], rfl, rfl, ⟨[.int .i64 x.f1], [.int .i64 x.f2.f0, .int .i64 x.f2.f1], rfl, rfl, (k55_mk w x.f2 )⟩⟩
structure S60 where
 f0 : Int
 f1 : Int
 f2 : Int
 f3 : Int
 f4 : S55
 f5 : Int
def z60 : S60 := ⟨(0 : Int), (0 : Int), (0 : Int), (0 : Int), z55, (0 : Int)⟩
def k60 : Kd S60 := Kd.iso (Kd.pair (Kd.int .i64) (Kd.pair (Kd.int .u8) (Kd.pair (Kd.int .i64) (Kd.pair (Kd.int .i64) (Kd.pair k55 (Kd.int .i64)))))) (fun x : S60 => (x.f0, x.f1, x.f2, x.f3, x.f4, x.f5))
theorem k60_open {w : World} {x : S60} {cs : List Value} (h : k60.K w x cs) : cs = [.int .i64 x.f0, .int .u8 x.f1, .int .i64 x.f2, .int .i64 x.f3, .int .i64 x.f4.f0, .int .i64 x.f4.f1, .int .i64 x.f5] := by
 obtain ⟨_, _, rfl, rfl, ⟨_, _, rfl, rfl, ⟨_, _, rfl, rfl, ⟨_, _, rfl, rfl, ⟨_, _, rfl, s4, rfl⟩⟩⟩⟩⟩ := h
 obtain rfl := k55_open s4
 exact rfl
theorem k60_mk (w : World) (x : S60)  : k60.K w x [.int .i64 x.f0, .int .u8 x.f1, .int .i64 x.f2, .int .i64 x.f3, .int .i64 x.f4.f0, .int .i64 x.f4.f1, .int .i64 x.f5] := ⟨[.int .i64 x.f0], [.int .u8 x.f1, .int .i64 x.f2, .int .i64 x.f3, .int .i64 x.f4.f0, .int .i64 x.f4.f1, .int .i64 x.f5], rfl, rfl, ⟨[.int .u8 x.f1], [.int .i64 x.f2, .int .i64 x.f3, .int .i64 x.f4.f0, .int .i64 x.f4.f1, .int .i64 x.f5], rfl, rfl, ⟨[.int .i64 x.f2], [.int .i64 x.f3, .int .i64 x.f4.f0, .int .i64 x.f4.f1, .int .i64 x.f5], rfl, rfl, ⟨[.int .i64 x.f3], [.int .i64 x.f4.f0, .int .i64 x.f4.f1, .int .i64 x.f5], rfl, rfl, ⟨[.int .i64 x.f4.f0, .int .i64 x.f4.f1], [.int .i64 x.f5], rfl, (k55_mk w x.f4 ), rfl⟩⟩⟩⟩⟩
theorem ro1 {w : World} {p : Addr} {v : Value} (h : w.cell? p = some v) : RO w XNone p [v] := fun j u hj => by
 cases j with
 | zero => simp at hj; subst hj; rw [Addr.add_zero']; exact ⟨h, fun x => x⟩
 | succ j => simp at hj
theorem int_at {w : World} {A : Option Addr} {n : Nat} {zs : List Int} (h : Kd.C (Kd.int .i64) w A n zs) (k : Nat) (hk : k < n) : ∃ ad, A = some ad ∧ RO w XNone (ad.add ((k : Int).toNat * szN 0)) [.int .i64 (zs.getD k 0)] := by
 obtain ⟨ad, e, hc⟩ := Kd.at_int h (k : Int) (by omega) (by omega)
 refine ⟨ad, e, ro1 ?_⟩
 have : (k : Int).toNat * szN 0 = (k : Int).toNat := by simp [szN]
 rw [this, hc]
 simp [rd]
theorem in1_calls (x lo hi : Int) (B C : Nat) (w : World) (hB : w.cell? ⟨B, 0, none⟩ = some (.int .i64 lo)) (hC : w.cell? ⟨C, 0, none⟩ = some (.int .i64 hi)) :
  Calls Tryd.prog 60 #[.int .i64 x, .pointer (some ⟨B, 0, none⟩), .pointer (some ⟨C, 0, none⟩)] w fun e w' => e = .returned (.bool (decide (x < lo) || decide (hi < x))) ∧ Below w.heap.size w w' := by
 have r1 := ro1 hB
 have r2 := ro1 hC
 refine x_calls (X := XNone) Tryd.func60 rfl rfl rfl ?_
 with_reducible ((repeat apply xc_seq); apply xcR)
 refine xoA ?_
 with_reducible (apply xo_nil; (repeat first | apply xqT | apply xqB | apply xqS))
 cases h : decide (x < lo)
 all_goals
  with_reducible ((repeat apply xc_seq); apply xcR)
  refine xoM ?_
  refine xo_loadR0 T_ rfl rfl rfl (by first | assumption | exact RO.fld (by assumption) rfl) rfl ?_
  refine xo_lss rfl rfl rfl rfl ?_
  refine xoM ?_
  refine xo_as (i := 8) rfl (congrArg Value.bool h) ?_
  (first | refine xoN ?_ | refine xoM ?_)
  (first | refine xoN ?_ | refine xo_loadR0 T_ rfl rfl rfl (by first | assumption | exact RO.fld (by assumption) rfl) rfl ?_)
  (first | refine xoN ?_ | refine xo_gtr rfl rfl rfl rfl ?_)
  first | refine xo_pickT rfl rfl rfl rfl ?_ | refine xo_pickF rfl rfl rfl rfl ?_
  refine xoA ?_
  with_reducible (apply xo_nil; (repeat first | apply xqT | apply xqB | apply xqS); (repeat apply xc_seq); apply xc_ret; (repeat (first | apply xq_thenR | apply xq_blockR | apply xq_scopeR)))
  exact (xq_ret1 rfl rfl fun w' hw => ⟨rfl, hw.kx.below⟩)
def idxF {α : Type} (p : α → Bool) : List α → Nat → Int
 | [], _ => -1
 | x :: r, i => if p x then (i : Int) else idxF p r (i + 1)
theorem idxF_hit {α : Type} (p : α → Bool) (z : α) : ∀ (zs : List α) (k i : Nat), k < zs.length → p (zs.getD k z) = true → (∀ j, j < k → p (zs.getD j z) = false) → idxF p zs i = ((i + k : Nat) : Int)
 | [], k, i, h, _, _ => absurd h (by simp)
 | x :: r, 0, i, _, h, _ => by simp [idxF] at h ⊢; simp [h]
 | x :: r, k + 1, i, hk, h, hn => by
  have h0 := hn 0 (by omega)
  simp at h0
  have := idxF_hit p z r k (i + 1) (by simpa using hk) (by simpa using h) (fun j hj => by simpa using hn (j + 1) (by omega))
  simp [idxF, h0, this]
  omega
theorem idxF_miss {α : Type} (p : α → Bool) (z : α) : ∀ (zs : List α) (i : Nat), (∀ j, j < zs.length → p (zs.getD j z) = false) → idxF p zs i = -1
 | [], _, _ => rfl
 | x :: r, i, h => by
  have h0 := h 0 (by simp)
  simp at h0
  simp [idxF, h0, idxF_miss p z r (i + 1) (fun j hj => by simpa using h (j + 1) (by simpa using hj))]
theorem idxF_any {α : Type} (p : α → Bool) : ∀ (zs : List α) (i : Nat), decide (0 ≤ idxF p zs i) = zs.any p
 | [], _ => rfl
 | x :: r, i => by
  by_cases h : p x = true
  ·simp [idxF, h]
  ·have h' : p x = false := by simpa using h
   simp [idxF, h', ← idxF_any p r (i + 1)]
def Asks (P : Program) (w : World) (g : Nat) (cs : List Value) (enc : Int → Value) (p : Int → Bool) : Prop :=
 ∀ (x : Int) (W : World), Below w.heap.size w W → Calls P g ([enc x] ++ cs).toArray W fun e W' => e = .returned (.bool (p x)) ∧ Below W.heap.size W W'
theorem indexFunc_calls (p : Int → Bool) (g : Nat) (cs : List Value) (eg : ∀ args w, (callFunc g args).run Tryd.prog w = .ok (.enter g args) w) (A : Option Addr) (c : Nat) (zs : List Int) (w : World)
  (hr : Kd.C (Kd.int .i64) w A zs.length zs) (hp : Asks Tryd.prog w g cs (.int .i64) p) :
  Calls Tryd.prog 87 #[.slice A zs.length c, .func (.func g) #[] cs.toArray] w fun e w' => e = .returned (.int .i64 (idxF p zs 0)) ∧ Below w.heap.size w w' := by
 have hn := hr.2.1
 refine x_calls (X := XNone) Tryd.func87 rfl rfl rfl ?_
 with_reducible ((repeat apply xc_seq); apply xcR)
 refine xoA ?_
 with_reducible (apply xo_nil; (repeat first | apply xqT | apply xqB | apply xqS); (repeat apply xc_seq); apply xcR)
 refine xoM ?_
 refine xo_len T_ rfl rfl rfl rfl ?_
 refine xoM ?_
 with_reducible (apply xo_nil; (repeat first | apply xqT | apply xqB | apply xqS); (repeat apply xc_seq); apply xc_block)
 refine xc_loop (γ := Nat) (fun k => k ≤ zs.length ∧ ∀ j, j < k → p (zs.getD j 0) = false) (fun k => [(0, .slice A zs.length c), (1, .func (.func g) #[] cs.toArray), (6, .slice A zs.length c), (7, .int .i64 (zs.length : Int)), (8, .int .i64 (k : Int))]) (fun _ => []) (fun k => zs.length - k) 0
  ⟨Nat.zero_le _, fun j hj => absurd hj (Nat.not_lt_zero _)⟩ ⟨rfl, rfl, rfl, rfl, rfl, trivial⟩ (List.Sublist.refl _) ?_
 rintro k ⟨hk, hno⟩
 with_reducible ((repeat apply xc_seq); apply xcR)
 refine xo_lss rfl rfl rfl rfl ?_
 with_reducible (apply xo_nil; (repeat first | apply xqT | apply xqB | apply xqS); (repeat apply xc_seq))
 refine xc_cond rfl (fun h => ?_) (fun h => ?_)
 ·have hlt : k < zs.length := by have := of_decide_eq_true h; omega
  obtain ⟨ad, rfl, r1⟩ := int_at hr k hlt
  with_reducible (apply xc_skip; (repeat first | apply xqT | apply xqB | apply xqS); (repeat apply xc_seq); apply xc_block; (repeat apply xc_seq); apply xcR)
  refine xoM ?_
  refine xoA ?_
  with_reducible (apply xo_nil; (repeat first | apply xqT | apply xqB | apply xqS); (repeat apply xc_seq); apply xcR)
  refine xoM ?_
  refine xoM ?_
  refine xoM ?_
  refine xo_ia T_ rfl rfl rfl rfl rfl ⟨by omega, by omega⟩ rfl ?_
  refine xo_loadR0 T_ rfl rfl rfl (by first | assumption | exact RO.fld (by assumption) rfl) rfl ?_
  refine xo_callB (fs := []) rfl rfl rfl eg rfl (fun w1 hw1 => hp _ _ hw1.kx.below) ?_
  with_reducible (apply xo_nil; (repeat first | apply xqT | apply xqB | apply xqS); (repeat apply xc_seq))
  refine xc_cond rfl (fun h2 => ?_) (fun h2 => ?_)
  ·with_reducible repeat apply xc_seq
   with_reducible apply xcR
   refine xoM ?_
   refine xoA ?_
   with_reducible (apply xo_nil; (repeat first | apply xqT | apply xqB | apply xqS); (repeat apply xc_seq); apply xc_ret; (repeat (first | apply xq_thenR | apply xq_blockR | apply xq_scopeR)))
   exact (xq_ret1 rfl rfl fun w' hw => ⟨by rw [idxF_hit p 0 zs k 0 hlt h2 hno]; simp, hw.kx.below⟩)
  ·with_reducible apply xc_skip
   with_reducible ((repeat first | apply xqT | apply xqB | apply xqS); (repeat apply xc_seq); apply xcR)
   refine xo_add rfl rfl rfl (by omega) rfl ?_
   refine xoM ?_
   with_reducible (apply xo_nil; (repeat first | apply xqT | apply xqB | apply xqS))
   refine xq_again _ _ _ _ _ (k + 1) ⟨by omega, fun j hj => ?_⟩ (by omega) ⟨rfl, rfl, rfl, rfl, rfl, trivial⟩ (List.Sublist.refl _)
   by_cases e : j = k
   ·subst e; exact h2
   ·exact hno j (by omega)
 ·have hge : ¬ k < zs.length := by have := of_decide_eq_false h; omega
  with_reducible (apply xc_exit; (repeat (first | apply xq_blockX | apply xq_thenE | refine xq_blockE rfl ?_ | apply xq_scopeE)); (repeat first | apply xqT | apply xqB | apply xqS); (repeat apply xc_seq); apply xcR)
  refine xoA ?_
  with_reducible (apply xo_nil; (repeat first | apply xqT | apply xqB | apply xqS); (repeat apply xc_seq); apply xc_ret; (repeat (first | apply xq_thenR | apply xq_blockR | apply xq_scopeR)))
  refine xq_ret1 rfl rfl fun w' hw => ⟨?_, hw.kx.below⟩
  rw [idxF_miss p 0 zs 0 (fun j hj => hno j (by omega))]
theorem containsFunc_calls (p : Int → Bool) (g : Nat) (cs : List Value) (eg : ∀ args w, (callFunc g args).run Tryd.prog w = .ok (.enter g args) w) (A : Option Addr) (c : Nat) (zs : List Int) (w : World)
  (hr : Kd.C (Kd.int .i64) w A zs.length zs) (hp : Asks Tryd.prog w g cs (.int .i64) p) :
  Calls Tryd.prog 59 #[.slice A zs.length c, .func (.func g) #[] cs.toArray] w fun e w' => e = .returned (.bool (zs.any p)) ∧ Below w.heap.size w w' := by
 rw [← idxF_any p zs 0]
 have eg2 := enters_of Tryd.func87 (by kernel_rfl) rfl
 refine x_calls (X := XNone) Tryd.func59 rfl rfl rfl ?_
 with_reducible ((repeat apply xc_seq); apply xcR)
 refine xoA ?_
 with_reducible (apply xo_nil; (repeat first | apply xqT | apply xqB | apply xqS); (repeat apply xc_seq); apply xcR)
 refine xoM ?_
 refine xoM ?_
 refine xo_callB (fs := []) (cs := []) rfl rfl rfl eg2 rfl (fun w1 hw1 => indexFunc_calls p g cs eg A c zs w1 (Kd.C_below hr hw1.kx.below) (fun x W hW => hp x W (below_step hw1.kx.below hW))) ?_
 refine xo_geq rfl rfl rfl rfl ?_
 refine xoA ?_
 with_reducible (apply xo_nil; (repeat first | apply xqT | apply xqB | apply xqS); (repeat apply xc_seq); apply xc_ret; (repeat (first | apply xq_thenR | apply xq_blockR | apply xq_scopeR)))
 exact (xq_ret1 rfl rfl fun w' hw => ⟨rfl, hw.kx.below⟩)
def origin_in.f (a0 : Int) (a1 : Int) (l2 : List Int) : Option Bool := some (!l2.any fun x => decide (x < a0) || decide (a1 < x))
theorem origin_in.calls (a0 : Int) (a1 : Int) (A2 : Option Addr) (c2 : Nat) (l2 : List Int) (r : Bool) (w : World) (hr2 : Kd.C (Kd.int .i64) w A2 l2.length l2) (hc2 : l2.length ≤ c2) (h : origin_in.f a0 a1 l2 = some r) :
  Calls Tryd.prog 38 #[.int .i64 a0, .int .i64 a1, .slice A2 l2.length c2] w fun e w' => e = .returned (.bool r) ∧ Below w.heap.size w w' := by
 obtain rfl := Option.some.inj h
 have eg : ∀ args w, (callFunc 60 args).run Tryd.prog w = .ok (.enter 60 args) w := enters_of Tryd.func60 (by kernel_rfl) rfl
 have eg2 := enters_of Tryd.func59 (by kernel_rfl) rfl
 refine x_calls (X := XNone) Tryd.func38 rfl rfl rfl ?_
 with_reducible ((repeat apply xc_seq); apply xcR)
 refine xo_box rfl rfl rfl rfl (fun b3 => ?_)
 refine xo_box rfl rfl rfl rfl (fun b4 => ?_)
 refine xoA ?_
 with_reducible (apply xo_nil; (repeat first | apply xqT | apply xqB | apply xqS); (repeat apply xc_seq); apply xcR)
 refine xoM ?_
 refine xo_mkf rfl rfl rfl rfl ?_
 refine xo_callB (fs := []) (cs := []) rfl rfl rfl eg2 rfl (fun w1 hw1 => containsFunc_calls (fun x => decide (x < a0) || decide (a1 < x)) _ [.pointer (some ⟨b3, 0, none⟩), .pointer (some ⟨b4, 0, none⟩)] eg A2 c2 l2 w1 (Kd.C_below hr2 hw1.kx.below)
  (fun x W hW => in1_calls x a0 a1 b3 b4 W ((hw1.below hW).cell (t := 3) (List.Mem.tail _ (List.Mem.head _)) 0 rfl) ((hw1.below hW).cell (List.Mem.head _) 0 rfl))) ?_
 refine xo_notOp rfl rfl rfl ?_
 refine xoA ?_
 with_reducible (apply xo_nil; (repeat first | apply xqT | apply xqB | apply xqS); (repeat apply xc_seq); apply xc_ret; (repeat (first | apply xq_thenR | apply xq_blockR | apply xq_scopeR)))
 exact (xq_ret1 rfl rfl fun w' hw => ⟨rfl, hw.kx.below⟩)
end Go.Proofs.YtommeljlfkmpjaaDoor
namespace Go.Proofs.YtommeljlfkmpjaaDoor
abbrev Edge3 := Nat × Nat × Int
def Adj (es : List Edge3) (a c : Nat) (l : Int) : Prop := (a, c, l) ∈ es ∨ (c, a, l) ∈ es
inductive Wk (es : List Edge3) (b : Nat) : Nat → List Nat → Int → Prop
 | nil : Wk es b b [b] 0
 | cons {a c : Nat} {p : List Nat} {n l : Int} (h : Adj es a c l) (t : Wk es b c p n) : Wk es b a (a :: p) (l + n)
theorem Wk.mem {es : List Edge3} {b a : Nat} {p : List Nat} {n : Int} (h : Wk es b a p n) : a ∈ p := by
 cases h <;> exact List.mem_cons_self
theorem Wk.append {es : List Edge3} {b c : Nat} {q : List Nat} {m : Int} (t : Wk es b c q m) : ∀ {a : Nat} {p : List Nat} {n : Int}, Wk es c a p n → ∃ p', Wk es b a p' (n + m) := by
 intro a p n h
 induction h with
 | nil => exact ⟨q, by rw [Int.zero_add]; exact t⟩
 | cons h _ ih =>
  obtain ⟨p', h'⟩ := ih
  have h2 := Wk.cons h h'
  rw [← Int.add_assoc] at h2
  exact ⟨_, h2⟩
theorem Wk.one {es : List Edge3} {a b : Nat} {l : Int} (h : Adj es a b l) : Wk es b a [a, b] l := by
 have := Wk.cons h (Wk.nil (es := es) (b := b))
 rwa [Int.add_zero] at this
theorem Adj.symm {es : List Edge3} {a b : Nat} {l : Int} (h : Adj es a b l) : Adj es b a l := h.elim .inr .inl
theorem Wk.back {es : List Edge3} {b a : Nat} {p : List Nat} {n : Int} (h : Wk es b a p n) : ∃ q, Wk es a b q n := by
 induction h with
 | nil => exact ⟨_, Wk.nil⟩
 | cons h _ ih =>
  obtain ⟨q, h2⟩ := ih
  obtain ⟨p', h3⟩ := (Wk.one h.symm).append h2
  rw [Int.add_comm] at h3
  exact ⟨p', h3⟩
def Fine (es : List Edge3) (R : Nat) : Prop := ∀ e ∈ es, e.1 < R ∧ e.2.1 < R ∧ 0 ≤ e.2.2
theorem Fine.adj {es : List Edge3} {R : Nat} (hF : Fine es R) {a c : Nat} {l : Int} (h : Adj es a c l) : a < R ∧ c < R ∧ 0 ≤ l := by
 rcases h with h | h
 ·exact hF _ h
 ·have := hF _ h; exact ⟨this.2.1, this.1, this.2.2⟩
theorem Wk.pos {es : List Edge3} {R : Nat} (hF : Fine es R) {b a : Nat} {p : List Nat} {n : Int} (h : Wk es b a p n) : 0 ≤ n := by
 induction h with
 | nil => exact Int.le_refl _
 | cons h _ ih => have := (hF.adj h).2.2; omega
theorem Wk.room {es : List Edge3} {R : Nat} (hF : Fine es R) {b a : Nat} (hb : b < R) {p : List Nat} {n : Int} (h : Wk es b a p n) : ∀ v ∈ p, v < R := by
 induction h with
 | nil => intro v hv; rw [List.mem_singleton.1 hv]; exact hb
 | cons h _ ih =>
  intro v hv
  rcases List.mem_cons.1 hv with rfl | hv
  ·exact (hF.adj h).1
  ·exact ih v hv
theorem Wk.tail {es : List Edge3} {R : Nat} (hF : Fine es R) {b a : Nat} {p : List Nat} {n : Int} (h : Wk es b a p n) (hn : p.Nodup) : ∀ v ∈ p, ∃ q m, Wk es b v q m ∧ q.Nodup ∧ m ≤ n := by
 induction h with
 | nil => intro v hv; rw [List.mem_singleton.1 hv]; exact ⟨_, _, Wk.nil, by simp, Int.le_refl _⟩
 | cons h t ih =>
  intro v hv
  rcases List.mem_cons.1 hv with rfl | hv
  ·exact ⟨_, _, Wk.cons h t, hn, Int.le_refl _⟩
  ·obtain ⟨q, m, h1, h2, h3⟩ := ih (List.nodup_cons.1 hn).2 v hv
   have := (hF.adj h).2.2
   exact ⟨q, m, h1, h2, by omega⟩
theorem Wk.simple {es : List Edge3} {R : Nat} (hF : Fine es R) {b a : Nat} {p : List Nat} {n : Int} (h : Wk es b a p n) : ∃ q m, Wk es b a q m ∧ q.Nodup ∧ m ≤ n := by
 induction h with
 | nil => exact ⟨_, _, Wk.nil, by simp, Int.le_refl _⟩
 | @cons a c p n l h t ih =>
  obtain ⟨q, m, h1, h2, h3⟩ := ih
  have hl := (hF.adj h).2.2
  by_cases hm : a ∈ q
  ·obtain ⟨q', m', k1, k2, k3⟩ := h1.tail hF h2 a hm
   exact ⟨q', m', k1, k2, by omega⟩
  ·exact ⟨a :: q, l + m, Wk.cons h h1, List.nodup_cons.2 ⟨hm, h2⟩, by omega⟩
structure Dist (es : List Edge3) (R : Nat) (N : Int) (r : Nat) (d : Nat → Int) : Prop where
 top : ∀ v, v < R → d v ≤ N
 is : ∀ v, v < R → d v = N ∨ ∃ p, Wk es r v p (d v)
 least : ∀ v, v < R → ∀ p n, Wk es r v p n → d v ≤ n
theorem Dist.pos {es : List Edge3} {R : Nat} (hF : Fine es R) {N : Int} (hN : 0 ≤ N) {r : Nat} {d : Nat → Int} (h : Dist es R N r d) {v : Nat} (hv : v < R) : 0 ≤ d v := by
 rcases h.is v hv with e | ⟨p, h⟩
 ·omega
 ·exact h.pos hF
theorem Dist.same {es : List Edge3} {R : Nat} {N M : Int} {r : Nat} {d e : Nat → Int} (h : Dist es R N r d) (k : Dist es R M r e) {v : Nat} (hv : v < R) (hN : d v < N ∨ ∀ p n, ¬ Wk es r v p n) (hM : e v < M ∨ ∀ p n, ¬ Wk es r v p n) : d v = e v ∨ (d v = N ∧ e v = M) := by
 by_cases hw : ∃ p n, Wk es r v p n
 ·obtain ⟨p, n, hw⟩ := hw
  have h1 := hN.resolve_right fun q => q p n hw
  have h2 := hM.resolve_right fun q => q p n hw
  left
  obtain ⟨p1, w1⟩ := (h.is v hv).resolve_left (by omega)
  obtain ⟨p2, w2⟩ := (k.is v hv).resolve_left (by omega)
  have := h.least v hv p2 _ w2
  have := k.least v hv p1 _ w1
  omega
 ·right
  refine ⟨(h.is v hv).resolve_right fun ⟨p, q⟩ => hw ⟨p, _, q⟩, (k.is v hv).resolve_right fun ⟨p, q⟩ => hw ⟨p, _, q⟩⟩
def relax (d : Nat → Int) (e : Edge3) : Nat → Int := fun v => if v = e.1 then (if d e.2.1 + e.2.2 < d e.1 then d e.2.1 + e.2.2 else d e.1) else if v = e.2.1 then (if d e.1 + e.2.2 < d e.2.1 then d e.1 + e.2.2 else d e.2.1) else d v
def roundB (es : List Edge3) (d : Nat → Int) : Nat → Int := es.foldl relax d
theorem relax_le (d : Nat → Int) (e : Edge3) (v : Nat) : relax d e v ≤ d v := by
 unfold relax
 split
 ·rename_i h; subst h; split <;> omega
 ·split
  ·rename_i h; subst h; split <;> omega
  ·exact Int.le_refl _
def roundsB (es : List Edge3) (d : Nat → Int) : Nat → Nat → Int
 | 0 => d
 | k + 1 => roundB es (roundsB es d k)
def startB (N : Int) (r : Nat) : Nat → Int := fun v => if v = r then 0 else N
structure Sound (es : List Edge3) (N : Int) (r : Nat) (d : Nat → Int) : Prop where
 top : ∀ v, d v ≤ N
 is : ∀ v, d v = N ∨ ∃ p, Wk es r v p (d v)
theorem Sound.relax {es : List Edge3} {N : Int} {r : Nat} {d : Nat → Int} (h : Sound es N r d) {e : Edge3} (he : e ∈ es) (hl : 0 ≤ e.2.2) : Sound es N r (relax d e) := by
 refine ⟨fun v => Int.le_trans (relax_le d e v) (h.top v), fun v => ?_⟩
 unfold Go.Proofs.YtommeljlfkmpjaaDoor.relax
 have t1 := h.top e.1
 have t2 := h.top e.2.1
 split
 ·split
  ·right
   obtain ⟨p, w⟩ := (h.is e.2.1).resolve_left (by omega)
   rename_i hv _
   subst hv
   have h2 := Wk.cons (.inl he) w
   rw [Int.add_comm] at h2
   exact ⟨_, h2⟩
  ·rename_i hv _; subst hv; exact h.is _
 ·split
  ·split
   ·right
    obtain ⟨p, w⟩ := (h.is e.1).resolve_left (by omega)
    rename_i _ hv _
    subst hv
    have h2 := Wk.cons (.inr he) w
    rw [Int.add_comm] at h2
    exact ⟨_, h2⟩
   ·rename_i _ hv _; subst hv; exact h.is _
  ·exact h.is v
theorem Sound.round {es : List Edge3} {N : Int} {r : Nat} (hp : ∀ e ∈ es, 0 ≤ e.2.2) : ∀ (fs : List Edge3) (d : Nat → Int), (∀ e ∈ fs, e ∈ es) → Sound es N r d → Sound es N r (roundB fs d)
 | [], _, _, h => h
 | e :: fs, d, hs, h => Sound.round hp fs (Go.Proofs.YtommeljlfkmpjaaDoor.relax d e) (fun f hf => hs f (List.mem_cons_of_mem _ hf)) (h.relax (hs e List.mem_cons_self) (hp e (hs e List.mem_cons_self)))
def updM (F : Nat → Nat → Int) (a b : Nat) (v : Int) : Nat → Nat → Int := fun x y => if x = a ∧ y = b then v else F x y
def startM (N : Int) : Nat → Nat → Int := fun a b => if a = b then 0 else N
def gateM (F : Nat → Nat → Int) (e : Edge3) : Nat → Nat → Int := updM (updM F e.1 e.2.1 (if e.2.2 < F e.1 e.2.1 then e.2.2 else F e.1 e.2.1)) e.2.1 e.1 (if e.2.2 < F e.1 e.2.1 then e.2.2 else F e.1 e.2.1)
def gatesM (es : List Edge3) (F : Nat → Nat → Int) : Nat → Nat → Int := es.foldl gateM F
def cellM (k : Nat) (F : Nat → Nat → Int) (a b : Nat) : Nat → Nat → Int := updM F a b (if F a k + F k b < F a b then F a k + F k b else F a b)
def rowM (k a : Nat) (F : Nat → Nat → Int) : Nat → Nat → Nat → Int
 | 0 => F
 | b + 1 => cellM k (rowM k a F b) a b
def allM (R k : Nat) (F : Nat → Nat → Int) : Nat → Nat → Nat → Int
 | 0 => F
 | a + 1 => rowM k a (allM R k F a) R
def fwM (R : Nat) (F : Nat → Nat → Int) : Nat → Nat → Nat → Int
 | 0 => F
 | k + 1 => allM R k (fwM R F k) R
structure SoundM (es : List Edge3) (N : Int) (F : Nat → Nat → Int) : Prop where
 top : ∀ a b, F a b ≤ N
 pos : ∀ a b, 0 ≤ F a b
 zero : ∀ a, F a a = 0
 is : ∀ a b, F a b = N ∨ ∃ p, Wk es b a p (F a b)
theorem SoundM.cell {es : List Edge3} {N : Int} {F : Nat → Nat → Int} (h : SoundM es N F) (k a b : Nat) : SoundM es N (cellM k F a b) := by
 have t := h.top a b
 have p1 := h.pos a k
 have p2 := h.pos k b
 have p3 := h.pos a b
 refine ⟨fun x y => ?_, fun x y => ?_, fun x => ?_, fun x y => ?_⟩
 ·unfold cellM updM
  split
  ·split <;> omega
  ·exact h.top x y
 ·unfold cellM updM
  split
  ·split <;> omega
  ·exact h.pos x y
 ·unfold cellM updM
  split
  ·rename_i hx
   obtain ⟨rfl, rfl⟩ := hx
   have := h.zero x
   split <;> omega
  ·exact h.zero x
 ·unfold cellM updM
  split
  ·rename_i hx
   obtain ⟨rfl, rfl⟩ := hx
   split
   ·right
    obtain ⟨q1, w1⟩ := (h.is x k).resolve_left (by omega)
    obtain ⟨q2, w2⟩ := (h.is k y).resolve_left (by omega)
    exact w2.append w1
   ·exact h.is x y
  ·exact h.is x y
theorem SoundM.row {es : List Edge3} {N : Int} {F : Nat → Nat → Int} (h : SoundM es N F) (k a : Nat) : ∀ b, SoundM es N (rowM k a F b)
 | 0 => h
 | b + 1 => (SoundM.row h k a b).cell k a b
theorem SoundM.all {es : List Edge3} {N : Int} {F : Nat → Nat → Int} (h : SoundM es N F) (R k : Nat) : ∀ a, SoundM es N (allM R k F a)
 | 0 => h
 | a + 1 => (SoundM.all h R k a).row k a R
theorem SoundM.fw {es : List Edge3} {N : Int} {F : Nat → Nat → Int} (h : SoundM es N F) (R : Nat) : ∀ k, SoundM es N (fwM R F k)
 | 0 => h
 | k + 1 => (SoundM.fw h R k).all R k R
theorem SoundM.start {es : List Edge3} {N : Int} (hN : 0 ≤ N) : SoundM es N (startM N) := by
 refine ⟨fun a b => ?_, fun a b => ?_, fun a => by simp [startM], fun a b => ?_⟩ <;> unfold startM
 ·split <;> omega
 ·split <;> omega
 ·split
  ·rename_i h; subst h; exact .inr ⟨_, Wk.nil⟩
  ·exact .inl rfl
theorem SoundM.gate {es : List Edge3} {N : Int} {F : Nat → Nat → Int} (h : SoundM es N F) {e : Edge3} (he : e ∈ es) (hl : 0 ≤ e.2.2) (hne : e.1 ≠ e.2.1) (hsy : ∀ a b, F a b = F b a) : SoundM es N (gateM F e) := by
 have t := h.top e.1 e.2.1
 have p3 := h.pos e.1 e.2.1
 have hsy' := hsy e.2.1 e.1
 refine ⟨fun x y => ?_, fun x y => ?_, fun x => ?_, fun x y => ?_⟩ <;> unfold gateM updM
 ·split
  ·split <;> omega
  ·split
   ·split <;> omega
   ·exact h.top x y
 ·split
  ·split <;> omega
  ·split
   ·split <;> omega
   ·exact h.pos x y
 ·rw [if_neg (fun q => hne (q.2.symm.trans q.1)), if_neg (fun q => hne (q.1.symm.trans q.2))]
  exact h.zero x
 ·split
  ·rename_i hx
   obtain ⟨rfl, rfl⟩ := hx
   split
   ·exact .inr ⟨_, Wk.one (.inr he)⟩
   ·rw [← hsy']; exact h.is _ _
  ·split
   ·rename_i hx
    obtain ⟨rfl, rfl⟩ := hx
    split
    ·exact .inr ⟨_, Wk.one (.inl he)⟩
    ·exact h.is _ _
   ·exact h.is x y
theorem gateM_sym {F : Nat → Nat → Int} (hsy : ∀ a b, F a b = F b a) (e : Edge3) : ∀ a b, gateM F e a b = gateM F e b a := by
 intro a b
 unfold gateM updM
 generalize (if e.2.2 < F e.1 e.2.1 then e.2.2 else F e.1 e.2.1) = v
 by_cases h1 : a = e.2.1 ∧ b = e.1
 ·rw [if_pos h1]
  by_cases h2 : b = e.2.1 ∧ a = e.1
  ·rw [if_pos h2]
  ·rw [if_neg h2, if_pos (show b = e.1 ∧ a = e.2.1 from ⟨h1.2, h1.1⟩)]
 ·rw [if_neg h1]
  by_cases h2 : a = e.1 ∧ b = e.2.1
  ·rw [if_pos h2, if_pos (show b = e.2.1 ∧ a = e.1 from ⟨h2.2, h2.1⟩)]
  ·rw [if_neg h2, if_neg (fun q => h2 ⟨q.2, q.1⟩), if_neg (fun q => h1 ⟨q.2, q.1⟩)]
   exact hsy a b
theorem gateM_at1 (F : Nat → Nat → Int) (e : Edge3) (hne : e.1 ≠ e.2.1) : gateM F e e.1 e.2.1 ≤ e.2.2 := by
 unfold gateM updM
 rw [if_neg (fun z => hne z.1), if_pos (show e.1 = e.1 ∧ e.2.1 = e.2.1 from ⟨rfl, rfl⟩)]
 split <;> omega
theorem gateM_at2 (F : Nat → Nat → Int) (e : Edge3) : gateM F e e.2.1 e.1 ≤ e.2.2 := by
 unfold gateM updM
 rw [if_pos (show e.2.1 = e.2.1 ∧ e.1 = e.1 from ⟨rfl, rfl⟩)]
 split <;> omega
theorem gateM_le (F : Nat → Nat → Int) (hsy : ∀ a b, F a b = F b a) (e : Edge3) (a b : Nat) : gateM F e a b ≤ F a b := by
 have := hsy e.2.1 e.1
 unfold gateM updM
 split
 ·rename_i hx; obtain ⟨rfl, rfl⟩ := hx; split <;> omega
 ·split
  ·rename_i hx; obtain ⟨rfl, rfl⟩ := hx; split <;> omega
  ·exact Int.le_refl _
theorem gatesM_ok {es : List Edge3} {N : Int} (hp : ∀ e ∈ es, 0 ≤ e.2.2) (hne : ∀ e ∈ es, e.1 ≠ e.2.1) : ∀ (fs : List Edge3) (F : Nat → Nat → Int), (∀ e ∈ fs, e ∈ es) → SoundM es N F → (∀ a b, F a b = F b a) → SoundM es N (gatesM fs F) ∧ (∀ a b, gatesM fs F a b ≤ F a b) ∧ ∀ a c l, Adj fs a c l → gatesM fs F a c ≤ l
 | [], F, _, h, _ => ⟨h, fun _ _ => Int.le_refl _, fun a c l q => by rcases q with q | q <;> cases q⟩
 | e :: fs, F, hs, h, hsy => by
  have hm := hs e List.mem_cons_self
  obtain ⟨i1, i2, i3⟩ := gatesM_ok hp hne fs (gateM F e) (fun f hf => hs f (List.mem_cons_of_mem _ hf)) (h.gate hm (hp e hm) (hne e hm) hsy) (gateM_sym hsy e)
  refine ⟨i1, fun a b => Int.le_trans (i2 a b) (gateM_le F hsy e a b), fun a c l q => ?_⟩
  by_cases he : e = (a, c, l) ∨ e = (c, a, l)
  ·refine Int.le_trans (i2 a c) ?_
   have := hne e hm
   rcases he with rfl | rfl
   ·exact gateM_at1 F (a, c, l) this
   ·exact gateM_at2 F (c, a, l)
  ·refine i3 a c l ?_
   rcases q with q | q
   ·rcases List.mem_cons.1 q with q | q
    ·exact absurd (.inl q.symm) he
    ·exact .inl q
   ·rcases List.mem_cons.1 q with q | q
    ·exact absurd (.inr q.symm) he
    ·exact .inr q
end Go.Proofs.YtommeljlfkmpjaaDoor
namespace Go.Proofs.YtommeljlfkmpjaaDoor
open Go.RowKit Go.Proofs.YtommeljlfkmpjaaDoorW.PrintWords
abbrev SpaT := S55
abbrev GatT := S57
abbrev MarT := S60
abbrev gatK : Kd GatT := k57
abbrev marK : Kd MarT := k60
abbrev zSpa : SpaT := z55
abbrev zGat : GatT := z57
abbrev zMar : MarT := z60
def spaV (x : SpaT) : List Value := [.int .i64 x.f0, .int .i64 x.f1]
def gatV (x : GatT) : List Value := [.int .i64 x.f0, .int .i64 x.f1, .int .i64 x.f2.f0, .int .i64 x.f2.f1]
def marV (x : MarT) : List Value := [.int .i64 x.f0, .int .u8 x.f1, .int .i64 x.f2, .int .i64 x.f3, .int .i64 x.f4.f0, .int .i64 x.f4.f1, .int .i64 x.f5]
def scnV (R : Int) (A : Option Addr) (n c : Nat) (E : Int) (B : Option Addr) (m c2 : Nat) : List Value := [.int .i64 R, .slice A n c, .int .i64 E, .slice B m c2]
theorem ro_of {w : World} {p : Addr} {cs : List Value} (h : ∀ j v, cs[j]? = some v → w.cell? (p.add j) = some v) : RO w XNone p cs := fun j v hj => ⟨h j v hj, fun x => x⟩
theorem at_of {α : Type} {d : Kd α} {w : World} {A : Option Addr} {n : Nat} {xs : List α} (h : Kd.C d w A n xs) (z : α) (k : Nat) (hk : k < n) :
  ∃ ad cs, A = some ad ∧ xs[k]? = some (xs.getD k z) ∧ d.K w (xs.getD k z) cs ∧ RO w XNone (ad.add (k * d.sz)) cs := by
 obtain ⟨ad, e, hc⟩ := h.2.2 (by omega)
 have hl : k < xs.length := by have := h.1; omega
 have hg : xs.getD k z = xs[k] := by simp [List.getD_eq_getElem?_getD, List.getElem?_eq_getElem hl]
 obtain ⟨cs, h1, h2, h3⟩ := hc k _ (List.getElem?_eq_getElem hl)
 rw [hg]
 exact ⟨ad, cs, e, List.getElem?_eq_getElem hl, h2, ro_of fun j v hj => by rw [add_add]; exact h3 j v hj⟩
theorem drop_at {α : Type} (xs : List α) (z : α) (k : Nat) (hk : k < xs.length) : xs.drop k = xs.getD k z :: xs.drop (k + 1) := by
 rw [List.drop_eq_getElem_cons hk]
 simp [List.getD_eq_getElem?_getD, List.getElem?_eq_getElem hk]
theorem getD_mem {α : Type} (xs : List α) (z : α) (k : Nat) (hk : k < xs.length) : xs.getD k z ∈ xs := by
 simp [List.getD_eq_getElem?_getD, List.getElem?_eq_getElem hk]
theorem C_cel {w0 : World} {X : Nat → Prop} {η : Hp} {w : World} (hw : WOK w0 X η w) {b : Nat} {wr : Bool} {xs : List Int} {t : TypeId} (hm : (b, wr, cel (xs.map (.int .i64)) t) ∈ η) (hl : xs.length ≤ 9223372036854775807) : Kd.C (Kd.int .i64) w (some ⟨b, 0, none⟩) xs.length xs := by
 refine ⟨rfl, hl, fun _ => ⟨_, rfl, fun j p hj => ⟨[.int .i64 p], rfl, rfl, fun i u hu => ?_⟩⟩⟩
 have hi : i = 0 := by
  have := (List.getElem?_eq_some_iff.1 hu).1
  simpa using this
 subst hi
 simp at hu
 subst hu
 rw [Addr.add_lit]
 refine hw.cell hm _ ?_
 simp [Kd.int, Kd.scalar, hj]
theorem gat_at {w : World} {A : Option Addr} {n : Nat} {r : List GatT} (h : Kd.C gatK w A n r) (k : Nat) (hk : k < n) :
  ∃ ad, A = some ad ∧ RO w XNone (ad.add ((k : Int).toNat * szN 4)) (gatV (r.getD k zGat)) := by
 obtain ⟨ad, cs, e, _, hK, hR⟩ := at_of h zGat k hk
 obtain rfl := k57_open hK
 exact ⟨ad, e, hR⟩
theorem mar_at {w : World} {A : Option Addr} {n : Nat} {r : List MarT} (h : Kd.C marK w A n r) (k : Nat) (hk : k < n) :
  ∃ ad, A = some ad ∧ RO w XNone (ad.add ((k : Int).toNat * szN 7)) (marV (r.getD k zMar)) := by
 obtain ⟨ad, cs, e, _, hK, hR⟩ := at_of h zMar k hk
 obtain rfl := k60_open hK
 exact ⟨ad, e, hR⟩
def inF (lo hi x : Int) : Bool := decide (lo ≤ x) && decide (x ≤ hi)
theorem in_one (a0 a1 x : Int) : (!([x].any fun x => decide (x < a0) || decide (a1 < x))) = inF a0 a1 x := by
 unfold inF
 rw [Bool.eq_iff_iff]
 simp
theorem in_calls {w0 : World} {X : Nat → Prop} {η : Hp} {w : World} (hw : WOK w0 X η w) (lo hi x : Int) {b : Nat} {wr : Bool} {t : TypeId} (hm : (b, wr, cel [.int .i64 x] t) ∈ η) :
  Calls Tryd.prog 38 #[.int .i64 lo, .int .i64 hi, .slice (some ⟨b, 0, none⟩) 1 1] w fun e w' => e = .returned (.bool (inF lo hi x)) ∧ Below w.heap.size w w' := by
 rw [← in_one]
 exact origin_in.calls lo hi (some ⟨b, 0, none⟩) 1 [x] _ w (C_cel hw (xs := [x]) hm (by simp)) (by simp) rfl
theorem in_enters : ∀ args w, (callFunc 38 args).run Tryd.prog w = .ok (.enter 38 args) w := enters_of Tryd.func38 (by kernel_rfl) rfl
def gateF (R : Int) (g : GatT) : Bool := inF 0 (R - 1) g.f0 && inF 0 (R - 1) g.f1 && !decide (g.f0 = g.f1) && (inF 0 60 g.f2.f0 && inF 0 60 g.f2.f1 && decide (g.f2.f0 ≤ g.f2.f1)) && decide (g.f2.f1 ≤ g.f2.f0 + 2)
def noneF (m : MarT) : Bool := decide (m.f4.f0 = 0) && decide (m.f4.f1 = 0)
def timedF (m : MarT) : Bool := (inF 0 600 m.f4.f0 && inF 0 600 m.f4.f1 && decide (m.f4.f0 ≤ m.f4.f1)) && decide (m.f3 = 0) && decide (m.f5 = 0)
def lastingF (m : MarT) : Bool := inF 0 600 m.f5 && decide (m.f3 = 0) && noneF m
def beforeF (R : Int) (m : MarT) : Bool := inF 0 (R - 1) m.f3 && !decide (m.f3 = m.f2) && decide (m.f5 = 0) && noneF m
def kindF (R : Int) (m : MarT) : Bool := if m.f1 ≤ 3 then timedF m else if m.f1 ≤ 5 then lastingF m else beforeF R m
def marksF (R : Int) : Int → List MarT → Bool
 | _, [] => true
 | last, m :: ms => (inF (last + 1) 9999 m.f0 && inF 0 (R - 1) m.f2 && inF 1 6 m.f1 && kindF R m) && marksF R m.f0 ms
def sceneF (R E : Int) (gs : List GatT) (ms : List MarT) : Bool := (inF 1 6 R && inF 0 600 E && decide (gs.length ≤ 6) && decide (ms.length ≤ 8)) && gs.all (gateF R) && marksF R (-1) ms
def upL (lo : Int) : Nat → List Int
 | 0 => []
 | n + 1 => lo :: upL (lo + 1) n
def allD : List GatT → List (List Int)
 | [] => [[]]
 | g :: gs => (upL g.f2.f0 (g.f2.f1 - g.f2.f0 + 1).toNat).flatMap fun x => (allD gs).map (x :: ·)
def leastD (gs : List GatT) : List Int := gs.map fun g => g.f2.f0
def nextD : List GatT → List Int → Option (List Int)
 | g :: gs, x :: l => match nextD gs l with
  | some l' => some (x :: l')
  | none => if x < g.f2.f1 then some ((x + 1) :: leastD gs) else none
 | _, _ => none
def tailD : List GatT → List Int → List (List Int)
 | g :: gs, x :: l => (tailD gs l).map (x :: ·) ++ ((upL (x + 1) (g.f2.f1 - x).toNat).flatMap fun y => (allD gs).map (y :: ·))
 | _, _ => [[]]
def okD : List GatT → List Int → Prop
 | [], [] => True
 | g :: gs, x :: l => (g.f2.f0 ≤ x ∧ x ≤ g.f2.f1) ∧ okD gs l
 | _, _ => False
theorem okD_len : ∀ {gs : List GatT} {l : List Int}, okD gs l → l.length = gs.length
 | [], [], _ => rfl
 | _ :: _, _ :: _, h => congrArg (· + 1) (okD_len h.2)
 | [], _ :: _, h => h.elim
 | _ :: _, [], h => h.elim
theorem okD_at : ∀ {gs : List GatT} {l : List Int}, okD gs l → ∀ i, i < gs.length → (gs.getD i zGat).f2.f0 ≤ l.getD i 0 ∧ l.getD i 0 ≤ (gs.getD i zGat).f2.f1
 | [], _, _, i, hi => absurd hi (by simp)
 | g :: gs, x :: l, h, 0, _ => by simpa using h.1
 | g :: gs, x :: l, h, i + 1, hi => by simpa using okD_at h.2 i (by simpa using hi)
 | _ :: _, [], h, _, _ => h.elim
theorem least_ok : ∀ {gs : List GatT}, (∀ g ∈ gs, g.f2.f0 ≤ g.f2.f1) → okD gs (leastD gs)
 | [], _ => trivial
 | g :: gs, h => ⟨⟨Int.le_refl _, h g List.mem_cons_self⟩, least_ok fun q hq => h q (List.mem_cons_of_mem _ hq)⟩
theorem tailD_least : ∀ {gs : List GatT}, (∀ g ∈ gs, g.f2.f0 ≤ g.f2.f1) → tailD gs (leastD gs) = allD gs
 | [], _ => rfl
 | g :: gs, h => by
  have hg := h g List.mem_cons_self
  have ih := tailD_least (gs := gs) fun q hq => h q (List.mem_cons_of_mem _ hq)
  show (tailD gs (leastD gs)).map (g.f2.f0 :: ·) ++ _ = allD (g :: gs)
  rw [ih, allD, show (g.f2.f1 - g.f2.f0 + 1).toNat = (g.f2.f1 - g.f2.f0).toNat + 1 by omega, upL, List.flatMap_cons]
theorem tailD_step : ∀ {gs : List GatT} {l : List Int}, (∀ g ∈ gs, g.f2.f0 ≤ g.f2.f1) → okD gs l → tailD gs l = l :: (match nextD gs l with | some l' => tailD gs l' | none => [])
 | [], [], _, _ => rfl
 | [], _ :: _, _, h => h.elim
 | _ :: _, [], _, h => h.elim
 | g :: gs, x :: l, hg, h => by
  have hg' : ∀ q ∈ gs, q.f2.f0 ≤ q.f2.f1 := fun q hq => hg q (List.mem_cons_of_mem _ hq)
  have ih := tailD_step hg' h.2
  rw [tailD, nextD]
  cases hn : nextD gs l with
  | some l' =>
   rw [hn] at ih
   simp only at ih ⊢
   rw [ih, List.map_cons, List.cons_append]
   rfl
  | none =>
   rw [hn] at ih
   simp only at ih ⊢
   rw [ih]
   by_cases hx : x < g.f2.f1
   ·rw [if_pos hx, show (g.f2.f1 - x).toNat = (g.f2.f1 - (x + 1)).toNat + 1 by omega, upL, List.flatMap_cons]
    show _ = (x :: l) :: tailD (g :: gs) ((x + 1) :: leastD gs)
    rw [tailD, tailD_least hg']
    rfl
   ·rw [if_neg hx, show (g.f2.f1 - x).toNat = 0 by omega]
    rfl
theorem next_ok : ∀ {gs : List GatT} {l l' : List Int}, (∀ g ∈ gs, g.f2.f0 ≤ g.f2.f1) → okD gs l → nextD gs l = some l' → okD gs l'
 | [], [], _, _, _, h => by cases h
 | [], _ :: _, _, _, h, _ => h.elim
 | _ :: _, [], _, _, h, _ => h.elim
 | g :: gs, x :: l, l', hg, h, hn => by
  have hg' : ∀ q ∈ gs, q.f2.f0 ≤ q.f2.f1 := fun q hq => hg q (List.mem_cons_of_mem _ hq)
  rw [nextD] at hn
  cases hq : nextD gs l with
  | some r =>
   rw [hq] at hn
   simp only at hn
   cases hn
   exact ⟨h.1, next_ok hg' h.2 hq⟩
  | none =>
   rw [hq] at hn
   simp only at hn
   split at hn
   ·cases hn
    have := h.1
    exact ⟨⟨by omega, by omega⟩, least_ok hg'⟩
   ·cases hn
theorem nextD_app : ∀ {g1 g2 : List GatT} {l1 l2 r : List Int}, g1.length = l1.length → nextD g2 l2 = some r → nextD (g1 ++ g2) (l1 ++ l2) = some (l1 ++ r)
 | [], _, [], _, _, _, h => h
 | [], _, _ :: _, _, _, h, _ => by simp at h
 | _ :: _, _, [], _, _, h, _ => by simp at h
 | g :: g1, g2, x :: l1, l2, r, hl, h => by
  have := nextD_app (g1 := g1) (l1 := l1) (by simpa using hl) h
  rw [List.cons_append, List.cons_append, nextD, this]
  rfl
theorem nextD_none_cons {g : GatT} {gs : List GatT} {x : Int} {l : List Int} (h : nextD gs l = none) (hx : ¬ x < g.f2.f1) : nextD (g :: gs) (x :: l) = none := by
 rw [nextD, h]
 exact if_neg hx
theorem nextD_some_cons {g : GatT} {gs : List GatT} {x : Int} {l : List Int} (h : nextD gs l = none) (hx : x < g.f2.f1) : nextD (g :: gs) (x :: l) = some ((x + 1) :: leastD gs) := by
 rw [nextD, h]
 exact if_pos hx
end Go.Proofs.YtommeljlfkmpjaaDoor
namespace Go.Proofs.YtommeljlfkmpjaaDoor
open Go.RowKit
def SeqAt {α : Type} (F : Fence) (n : Nat) (P : Program) (g : Nat) (lb : Array Value) (enc : α → Array Value) (At : List α → α → World → Prop) (Kp : World → World → Prop) (S Sp : List α → Prop) (N : Nat) (w : World) : Prop :=
 ∀ (l : Nat) (J Jx : List α → World → Prop) (W : World), Below w.heap.size w W → AbidesFrom W.heap.size J → AbidesFrom W.heap.size Jx → J [] W →
  (∀ pre x V, J pre V → At pre x V → pre.length < N → YieldAt F (n - 1) P l (enc x) V fun e V' => (e = .returned (.bool true) ∧ J (pre ++ [x]) V' ∧ Kp V V') ∨ (e = .returned (.bool false) ∧ Jx (pre ++ [x]) V')) →
  CallsIn F n P g (#[.func (.yield l) #[] #[]] ++ lb) W fun e V => (∃ v, e = .returned v) ∧ ((∃ xs, S xs ∧ J xs V) ∨ (∃ pre, Sp pre ∧ Jx pre V))
theorem SeqAt.of {α : Type} {F : Fence} {n : Nat} {P : Program} {g : Nat} {lb : Array Value} {enc : α → Array Value} {Kp : World → World → Prop} {S Sp : List α → Prop} {N : Nat} {w : World} (h : SeqStopsK F n P g lb enc Kp S Sp N w) : SeqAt F n P g lb enc (fun _ _ _ => True) Kp S Sp N w :=
 fun l J Jx W hb hJ hJx h0 hy => h l J Jx W hb hJ hJx (fun pre x V h1 h2 => hy pre x V h1 trivial h2) h0
def Book (D : Nat) (o : Loop) (W : World) : Prop := W.heap[D + 1]? = some (.loop o) ∧ W.heap[D]? = some (.deferred (some []))
theorem Book.keep {D : Nat} {o : Loop} {V W : World} {row : Option Nat} (h : Book D o V) (hg : V.grownBy W row) (hr : ∀ r, row = some r → ∃ q : Obj, V.heap[r]? = some q ∧ q.isWalk = true) : Book D o W :=
 ⟨(grownBy_keeps hg hr h.1 rfl).trans h.1, (grownBy_keeps hg hr h.2 rfl).trans h.2⟩
theorem Book.from {D : Nat} {o : Loop} {V W : World} (h : Book D o V) (k : KeepsFrom D V W) : Book D o W := ⟨k.same _ _ (by omega) h.1 rfl, k.same _ _ (Nat.le_refl _) h.2 rfl⟩
theorem Book.put {D : Nat} {o : Loop} {V : World} (h : Book D o V) (o' : Loop) : Book D o' (V.putObj (D + 1) (.loop o')) :=
 ⟨World.putObj_heap_same (Array.getElem?_eq_some_iff.1 h.1).1, (World.putObj_heap_other (by omega)).trans h.2⟩
end Go.Proofs.YtommeljlfkmpjaaDoor
