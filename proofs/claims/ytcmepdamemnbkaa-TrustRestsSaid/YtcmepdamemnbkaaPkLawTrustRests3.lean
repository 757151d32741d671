/- SX: a region that draws its order, each of whose operations answers the same whatever has been done beside it. No program in sight. / trust.latest, trust.on's closures, (holding).stands. / SX: iterators: one that yields, and a range over one. No program in sight. / slices.AppendSeq, Collect over an iterator of whole numbers. / trust: (shelf).holds and what it yields; slices.AppendSeq, Collect. / slices.Index, Contains, DeleteFunc over whole numbers. -/
import Derived.Test.YtcmepdamemnbkaaPkLawTrustRests1
import Derived.Test.YtcmepdamemnbkaaPkLawTrustRests2
import Derived.RangeFuncNested
import Derived.RangeFuncLeaves
namespace Go.Proofs.Ytcmepdamemnbkaa
open Go.RowKit
set_option linter.unusedVariables false
set_option linter.unusedSimpArgs false
def depOf (o : Oper) : List Nat := o.after.toList.map (·.on)
def dstv (ops : List Oper) (vs : List Value) (j : Nat) : Slots :=
  match nthD j ops, nth j vs with
  | some d, some v => [(d, v)]
  | _, _ => []
def flatS (ops : List Oper) (vs : List Value) : List Nat → Slots → Slots
  | [], σ => σ
  | j :: L, σ => dstv ops vs j ++ flatS ops vs L σ
theorem slot_app (k : Nat) : ∀ A B : Slots, slot k (A ++ B) = match slot k A with | some u => some u | none => slot k B
  | [], B => rfl
  | p :: A, B => by
    simp only [List.cons_append, slot]
    cases Nat.beq p.1 k with
    | true => rfl
    | false => exact slot_app k A B
theorem slot_dstv {ops : List Oper} {vs : List Value} {j k : Nat} {u : Value} : slot k (dstv ops vs j) = some u ↔ nthD j ops = some k ∧ nth j vs = some u := by
  unfold dstv
  cases h1 : nthD j ops with
  | none => simp [slot]
  | some d =>
    cases h2 : nth j vs with
    | none => simp [slot]
    | some v =>
      simp only [slot]
      cases hb : Nat.beq d k with
      | true =>
        have := Nat.eq_of_beq_eq_true hb
        subst this
        simp
      | false =>
        have : d ≠ k := fun e => by subst e; simp at hb
        simp [this]
theorem flat_a {ops : List Oper} {vs : List Value} {k : Nat} {u : Value} {σ : Slots} : ∀ L : List Nat, slot k (flatS ops vs L σ) = some u → (∃ j ∈ L, nthD j ops = some k ∧ nth j vs = some u) ∨ slot k σ = some u
  | [], h => .inr h
  | j :: L, h => by
    unfold flatS at h
    rw [slot_app] at h
    cases hd : slot k (dstv ops vs j) with
    | some v =>
      rw [hd] at h
      cases h
      exact .inl ⟨j, List.mem_cons_self .., slot_dstv.1 hd⟩
    | none =>
      rw [hd] at h
      rcases flat_a L h with ⟨i, hi, h'⟩ | h'
      · exact .inl ⟨i, List.mem_cons_of_mem _ hi, h'⟩
      · exact .inr h'
theorem flat_b {ops : List Oper} {vs : List Value} {σ : Slots} (hdis : ∀ i j k, nthD i ops = some k → nthD j ops = some k → i = j) {k j : Nat} {u : Value} (h1 : nthD j ops = some k) (h2 : nth j vs = some u) : ∀ L : List Nat, j ∈ L → slot k (flatS ops vs L σ) = some u
  | [], h => by cases h
  | i :: L, h => by
    unfold flatS
    rw [slot_app]
    cases hd : slot k (dstv ops vs i) with
    | some v =>
      obtain ⟨h3, h4⟩ := slot_dstv.1 hd
      have := hdis i j k h3 h1
      subst this
      rw [h2] at h4
      exact h4.symm ▸ rfl
    | none =>
      rcases List.mem_cons.1 h with rfl | h
      · rw [slot_dstv.2 ⟨h1, h2⟩] at hd
        cases hd
      · exact flat_b hdis h1 h2 L h
theorem flat_c {ops : List Oper} {vs : List Value} {σ : Slots} {k : Nat} (hk : ∀ j, nthD j ops ≠ some k) : ∀ L : List Nat, slot k (flatS ops vs L σ) = slot k σ
  | [] => rfl
  | i :: L => by
    unfold flatS
    rw [slot_app]
    cases hd : slot k (dstv ops vs i) with
    | some v => exact absurd (slot_dstv.1 hd).1 (hk i)
    | none => exact flat_c hk L
theorem SOK.le {N : Nat} {ds : List Deferred} {σ σ' : Slots} {a : Act} (h : SOK N ds σ a) (hs : ∀ k u, slot k σ' = some u → slot k σ = some u) : SOK N ds σ' a := ⟨h.sz, fun i v e => h.sl i v (hs i v e), h.df⟩
/-- the post of one operation -/
def OnePost (N : Nat) (ds : List Deferred) (w0 : World) (X : Nat → Prop) (η : Hp) (σ : Slots) : Exit → Act → World → Prop
  | .normal, a, w => SOK N ds σ a ∧ WOK w0 X η w
  | _, _, _ => False
theorem wpIn_swap {F : Fence} {n : Nat} {P : Program} {o : Oper} {a : Act} {w : World} {K : Act → World → Prop} {N : Nat} {ds : List Deferred} {w0 : World} {X : Nat → Prop} {η : Hp} {σ : Slots} {Q : Exit → Act → World → Prop}
    (h : o.wpIn F n P a w K (OnePost N ds w0 X η σ)) : o.wpIn F n P a w K Q := by
  unfold Oper.wpIn at *
  refine ⟨h.1, ?_⟩
  have hh := h.2
  generalize (o.semAt F.round a.eval).run P w = r at *
  cases r with
  | ok x w' =>
    cases x <;> simp only [Oper.uponIn] at hh ⊢ <;>
      first
        | exact hh
        | exact ⟨hh.1, CallsIn.mono hh.2 (fun e w'' he => by
            cases e with
            | returned v => exact he
            | panicked c => exact he.elim
            | outgrown => obtain ⟨_, _, h3⟩ := he; exact h3.elim)⟩
        | exact ⟨hh.1, RoundIn.mono hh.2 (fun e w'' he => by
            cases e with
            | returned v => exact he
            | panicked c => exact he.elim
            | outgrown => obtain ⟨_, _, h3⟩ := he; exact h3.elim)⟩
  | halt x w' => cases x <;> simp only [Oper.uponIn] at hh ⊢ <;> first | exact hh | exact hh.elim
section
variable {P : Program} {ro : Option Nat} {n N : Nat} {ds : List Deferred} {w0 : World} {X : Nat → Prop} {Q : Exit → Act → World → Prop} {σ : Slots} {η : Hp}
/-- each operation, by itself: over what those told it that it waits for -/
def DrawOps (P : Program) (ro : Option Nat) (n N : Nat) (ds : List Deferred) (w0 : World) (X : Nat → Prop) (ops : List Oper) (vs : List Value) (σ : Slots) (η : Hp) : List Oper → List Value → Prop
  | o :: r, v :: vr => (∀ τ, XO P ro n N ds w0 X (OnePost N ds w0 X η (putS o.dst v (flatS ops vs (depOf o) σ ++ τ))) ops (flatS ops vs (depOf o) σ ++ τ) η [o]) ∧ DrawOps P ro n N ds w0 X ops vs σ η r vr
  | _, _ => True
theorem drawOps_get {ops : List Oper} {vs : List Value} : ∀ (l : List Oper) (vl : List Value) (i : Nat) (o : Oper) (v : Value), DrawOps P ro n N ds w0 X ops vs σ η l vl → l[i]? = some o → nth i vl = some v →
    ∀ τ, XO P ro n N ds w0 X (OnePost N ds w0 X η (putS o.dst v (flatS ops vs (depOf o) σ ++ τ))) ops (flatS ops vs (depOf o) σ ++ τ) η [o]
  | [], _, i, o, v, _, h, _ => by simp at h
  | x :: r, [], i, o, v, _, _, h => by simp [nth] at h
  | x :: r, y :: vr, 0, o, v, h, h1, h2 => by
    simp [nth] at h1 h2
    subst h1 h2
    exact h.1
  | x :: r, y :: vr, i + 1, o, v, h, h1, h2 => drawOps_get r vr i o v h.2 (by simpa using h1) (by simpa [nth] using h2)
def dstsOf_ (ops : List Oper) : List Tmp := ops.filterMap (·.dst)
def freshB (σ : Slots) : List Tmp → Bool
  | [] => true
  | d :: r => (match slot d σ with | none => true | some _ => false) && freshB σ r
def distB : List Tmp → Bool
  | [] => true
  | d :: r => !(r.any fun x => Nat.beq d x) && distB r
def depsB : Nat → List Oper → Bool
  | _, [] => true
  | i, o :: r => (depOf o).all (fun j => Nat.blt j i) && depsB (i + 1) r
theorem depsB_get : ∀ (l : List Oper) (i k : Nat) (o : Oper), depsB i l = true → l[k]? = some o → ∀ j ∈ depOf o, j < i + k
  | [], i, k, o, _, h => by simp at h
  | x :: r, i, 0, o, h, h1 => by
    simp at h1
    subst h1
    simp only [depsB, Bool.and_eq_true, List.all_eq_true, Nat.blt_eq] at h
    intro j hj
    simpa using h.1 j hj
  | x :: r, i, k + 1, o, h, h1 => by
    simp only [depsB, Bool.and_eq_true] at h
    intro j hj
    have := depsB_get r (i + 1) k o h.2 (by simpa using h1) j hj
    omega
theorem distB_get : ∀ (l : List Oper) (i j k : Nat), distB (dstsOf_ l) = true → nthD i l = some k → nthD j l = some k → i = j
  | [], i, j, k, _, h, _ => by simp [nthD] at h
  | x :: r, 0, 0, k, _, _, _ => rfl
  | x :: r, 0, j + 1, k, hd, h1, h2 => by
    simp only [nthD] at h1 h2
    simp only [dstsOf_, List.filterMap_cons, h1, distB, Bool.and_eq_true, Bool.not_eq_true', List.any_eq_false] at hd
    rw [nthD_eq] at h2
    obtain ⟨o, ho, ho2⟩ := Option.bind_eq_some_iff.1 h2
    have := hd.1 k (List.mem_filterMap.2 ⟨o, List.mem_of_getElem? ho, ho2⟩)
    simp at this
  | x :: r, i + 1, 0, k, hd, h1, h2 => by
    simp only [nthD] at h1 h2
    simp only [dstsOf_, List.filterMap_cons, h2, distB, Bool.and_eq_true, Bool.not_eq_true', List.any_eq_false] at hd
    rw [nthD_eq] at h1
    obtain ⟨o, ho, ho2⟩ := Option.bind_eq_some_iff.1 h1
    have := hd.1 k (List.mem_filterMap.2 ⟨o, List.mem_of_getElem? ho, ho2⟩)
    simp at this
  | x :: r, i + 1, j + 1, k, hd, h1, h2 => by
    simp only [nthD] at h1 h2
    have hd' : distB (dstsOf_ r) = true := by
      simp only [dstsOf_, List.filterMap_cons] at hd ⊢
      cases hx : x.dst with
      | none => rw [hx] at hd; exact hd
      | some d => rw [hx] at hd; simp only [distB, Bool.and_eq_true] at hd; exact hd.2
    rw [distB_get r i j k hd' h1 h2]
theorem freshB_get : ∀ (l : List Tmp) (d : Tmp), freshB σ l = true → d ∈ l → slot d σ = none
  | [], d, _, h => by cases h
  | x :: r, d, h, hm => by
    simp only [freshB, Bool.and_eq_true] at h
    rcases List.mem_cons.1 hm with rfl | hm
    · have := h.1
      split at this
      · assumption
      · cases this
    · exact freshB_get r d h.2 hm
theorem filter_less {l : List Nat} {p q : Nat → Bool} (h : ∀ j ∈ l, q j = true → p j = true) {i : Nat} (hi : i ∈ l) (hp : p i = true) (hq : q i = false) : (l.filter q).length < (l.filter p).length := by
  induction l with
  | nil => cases hi
  | cons x r ih =>
    have hle : ∀ l : List Nat, (∀ j ∈ l, q j = true → p j = true) → (l.filter q).length ≤ (l.filter p).length := by
      intro l
      induction l with
      | nil => intro _; simp
      | cons y r ih =>
        intro h
        have := ih (fun j hj => h j (List.mem_cons_of_mem _ hj))
        have h1 := h y (List.mem_cons_self ..)
        cases hqy : q y <;> cases hpy : p y <;> simp_all
        omega
    rcases List.mem_cons.1 hi with rfl | hi
    · have := hle r (fun j hj => h j (List.mem_cons_of_mem _ hj))
      simp only [List.filter_cons, hp, hq, ↓reduceIte, Bool.false_eq_true, List.length_cons]
      omega
    · have := ih (fun j hj => h j (List.mem_cons_of_mem _ hj)) hi
      have h1 := h x (List.mem_cons_self ..)
      cases hqy : q x <;> cases hpy : p x <;> simp_all
      omega
theorem xc_draw {id : Nat} {ops : List Oper} (vs : List Value) (hmix : P.follows .mixedOrders = true) (hlen : Nat.beq vs.length ops.length = true) (hbind : ops.all (fun o => o.after.toList.all (Region.binds .any)) = true) (hdeps : depsB 0 ops = true) (hdist : distB (dstsOf_ ops) = true) (hfresh : freshB σ (dstsOf_ ops) = true)
    (hop : DrawOps P ro n N ds w0 X ops vs σ η ops vs) (hQ : XQ N ds w0 X Q .normal (flatS ops vs (List.range ops.length) σ) η) : XC P ro n N ds w0 X Q σ η (.region id ops.toArray true) := by
  have hl := Nat.eq_of_beq_eq_true hlen
  have hdis := fun i j k => distB_get ops i j k hdist
  have hfr : ∀ j d, nthD j ops = some d → slot d σ = none := fun j d h => by
    rw [nthD_eq] at h
    obtain ⟨o, ho, ho2⟩ := Option.bind_eq_some_iff.1 h
    exact freshB_get _ d hfresh (List.mem_filterMap.2 ⟨o, List.mem_of_getElem? ho, ho2⟩)
  have hnot : ∀ k u, slot k σ = some u → ∀ j, nthD j ops ≠ some k := fun k u h j e => by rw [hfr j k e] at h; cases h
  -- those of some are those of more
  have hmore : ∀ L M : List Nat, (∀ j ∈ L, j ∈ M) → ∀ k u, slot k (flatS ops vs L σ) = some u → slot k (flatS ops vs M σ) = some u := by
    intro L M h k u hk
    rcases flat_a L hk with ⟨j, hj, h1, h2⟩ | h1
    · exact flat_b hdis h1 h2 M (h j hj)
    · rw [flat_c (hnot k u h1) M]; exact h1
  intro a w ha hw
  refine wpIn_region_any hmix ?_
  have key : ∀ (fuel : Nat) (L : List Nat) (listed : Array Bool) (a : Act) (w : World), listed.size = ops.length → (∀ j, listed.getD j false = true ↔ j ∈ L) → (∀ j ∈ L, j < ops.length) → ((List.range ops.length).filter fun j => !listed.getD j false).length ≤ fuel → SOK N ds (flatS ops vs L σ) a → WOK w0 X η w →
      wpAnyIn (wideR ro) n P .any ops.toArray Q fuel listed a w := by
    intro fuel
    induction fuel with
    | zero =>
      intro L listed a w hsz hL hLb hcnt ha hw
      have hall : ∀ j, j < ops.length → j ∈ L := by
        intro j hj
        have h0 := List.length_eq_zero_iff.1 (Nat.le_zero.1 hcnt)
        rw [List.filter_eq_nil_iff] at h0
        have := h0 j (List.mem_range.2 hj)
        exact (hL j).1 (by simpa using this)
      refine ⟨?_, hQ a w (ha.le (hmore _ _ (fun j hj => hall j (List.mem_range.1 hj)))) hw⟩
      apply List.eq_nil_iff_forall_not_mem.2
      intro j hj
      obtain ⟨h1, o, h2, _⟩ := mem_ready.1 hj
      have hlt : j < ops.length := by have := (Array.getElem?_eq_some_iff.1 h2).1; simpa using this
      have h3 := (hL j).2 (hall j hlt)
      rw [Array.getD_eq_getD_getElem?] at h1 h3
      rw [Array.getElem?_eq_getElem (by rw [hsz]; exact hlt)] at h1 h3
      simp at h1 h3
      rw [h1] at h3
      cases h3
    | succ fuel ih =>
      intro L listed a w hsz hL hLb hcnt ha hw
      refine ⟨fun hnil => ?_, fun i hi => ?_⟩
      · -- nothing is ready: all are listed
        have hall : ∀ k j, j ≤ k → j < ops.length → j ∈ L := by
          intro k
          induction k with
          | zero =>
            intro j hj hlt
            by_cases hm : j ∈ L
            · exact hm
            · exfalso
              have : j ∈ Region.ready .any ops.toArray listed := by
                refine mem_ready.2 ⟨?_, ops[j], by simp [List.getElem?_eq_getElem hlt], ?_⟩
                · have h3 : listed.getD j false ≠ true := fun q => hm ((hL j).1 q)
                  rw [Array.getD_eq_getD_getElem?, Array.getElem?_eq_getElem (by rw [hsz]; exact hlt)] at h3 ⊢
                  simpa using h3
                · intro e he _
                  have h4 := depsB_get ops 0 j ops[j] hdeps (List.getElem?_eq_getElem hlt) e.on (List.mem_map.2 ⟨e, by simpa using he, rfl⟩)
                  omega
              rw [hnil] at this
              cases this
          | succ k ihk =>
            intro j hj hlt
            by_cases hjk : j ≤ k
            · exact ihk j hjk hlt
            by_cases hm : j ∈ L
            · exact hm
            · exfalso
              have : j ∈ Region.ready .any ops.toArray listed := by
                refine mem_ready.2 ⟨?_, ops[j], by simp [List.getElem?_eq_getElem hlt], ?_⟩
                · have h3 : listed.getD j false ≠ true := fun q => hm ((hL j).1 q)
                  rw [Array.getD_eq_getD_getElem?, Array.getElem?_eq_getElem (by rw [hsz]; exact hlt)] at h3 ⊢
                  simpa using h3
                · intro e he _
                  have h4 := depsB_get ops 0 j ops[j] hdeps (List.getElem?_eq_getElem hlt) e.on (List.mem_map.2 ⟨e, by simpa using he, rfl⟩)
                  exact (hL e.on).2 (ihk e.on (by omega) (by omega))
              rw [hnil] at this
              cases this
        exact hQ a w (ha.le (hmore _ _ (fun j hj => hall j j (Nat.le_refl _) (List.mem_range.1 hj)))) hw
      · obtain ⟨h1, o, h2, h3⟩ := mem_ready.1 hi
        have hlt : i < ops.length := by have := (Array.getElem?_eq_some_iff.1 h2).1; simpa using this
        have ho : ops[i]? = some o := by simpa using h2
        have hio : i < vs.length := by rw [hl]; exact hlt
        have hv : nth i vs = some vs[i] := by rw [nth_eq, List.getElem?_eq_getElem hio]
        generalize vs[i] = v at hv
        have hnl : ¬ i ∈ L := fun q => by
          have h4 := (hL i).2 q
          rw [Array.getD_eq_getD_getElem?, Array.getElem?_eq_getElem (by rw [hsz]; exact hlt)] at h1 h4
          simp at h1 h4
          rw [h1] at h4
          cases h4
        have hdL : ∀ j ∈ depOf o, j ∈ L := by
          intro j hj
          obtain ⟨e, he, rfl⟩ := List.mem_map.1 hj
          have hb := List.all_eq_true.1 hbind o (List.mem_of_getElem? ho)
          exact (hL e.on).1 (h3 e (by simpa using he) (List.all_eq_true.1 hb e he))
        have hcons := hmore (depOf o) L hdL
        have hs : SOK N ds (flatS ops vs (depOf o) σ ++ flatS ops vs L σ) a := ha.le fun k u hk => by
          rw [slot_app] at hk
          cases hd : slot k (flatS ops vs (depOf o) σ) with
          | some x => rw [hd] at hk; cases hk; exact hcons k _ hd
          | none => rw [hd] at hk; exact hk
        have hrun := drawOps_get ops vs i o v hop ho hv (flatS ops vs L σ) a w hs hw
        have hnext : ∀ a' w', OnePost N ds w0 X η (putS o.dst v (flatS ops vs (depOf o) σ ++ flatS ops vs L σ)) .normal a' w' → wpAnyIn (wideR ro) n P .any ops.toArray Q fuel (listed.setIfInBounds i true) a' w' := by
          rintro a' w' ⟨ha', hw'⟩
          refine ih (i :: L) _ a' w' (by simp [hsz]) ?_ ?_ ?_ (ha'.le ?_) hw'
          · intro j
            rw [Array.getD_eq_getD_getElem?]
            by_cases e : i = j
            · subst e
              rw [Array.getElem?_setIfInBounds_self, if_pos (by rw [hsz]; exact hlt)]
              simp
            · rw [Array.getElem?_setIfInBounds_ne e, ← Array.getD_eq_getD_getElem?, hL j]
              simp [show ¬ j = i from fun q => e q.symm]
          · intro j hj
            rcases List.mem_cons.1 hj with rfl | hj
            · exact hlt
            · exact hLb j hj
          · have : ((List.range ops.length).filter fun j => !(listed.setIfInBounds i true).getD j false).length < ((List.range ops.length).filter fun j => !listed.getD j false).length := by
              refine filter_less (i := i) ?_ (List.mem_range.2 hlt) ?_ ?_
              · intro j hj hq
                by_cases e : i = j
                · subst e
                  rw [Array.getD_eq_getD_getElem?, Array.getElem?_setIfInBounds_self, if_pos (by rw [hsz]; exact hlt)] at hq
                  simp at hq
                · rw [Array.getD_eq_getD_getElem?, Array.getElem?_setIfInBounds_ne e, ← Array.getD_eq_getD_getElem?] at hq
                  exact hq
              · have h4 : listed.getD i false ≠ true := fun q => hnl ((hL i).1 q)
                simpa using h4
              · rw [Array.getD_eq_getD_getElem?, Array.getElem?_setIfInBounds_self, if_pos (by rw [hsz]; exact hlt)]
                simp
            omega
          · intro k u hk
            unfold flatS at hk
            rw [slot_app] at hk
            cases hd : slot k (dstv ops vs i) with
            | some x =>
              rw [hd] at hk
              cases hk
              obtain ⟨h5, h6⟩ := slot_dstv.1 hd
              rw [hv] at h6
              cases h6
              rw [nthD_eq, ho] at h5
              simp only [Option.bind_some] at h5
              rw [h5]
              unfold putS slot
              simp
            | none =>
              rw [hd] at hk
              have h7 : slot k (flatS ops vs (depOf o) σ ++ flatS ops vs L σ) = some u := by
                rw [slot_app]
                cases hd2 : slot k (flatS ops vs (depOf o) σ) with
                | some x => have hk' : slot k (flatS ops vs L σ) = some u := hk; have := hcons k x hd2; rw [hk'] at this; exact this.symm
                | none => exact hk
              cases hdo : o.dst with
              | none => exact h7
              | some d =>
                unfold putS slot
                have hne : Nat.beq d k = false := by
                  cases hb : Nat.beq d k with
                  | false => rfl
                  | true =>
                    exfalso
                    have e := Nat.eq_of_beq_eq_true hb
                    subst e
                    rw [slot_dstv.2 ⟨by rw [nthD_eq, ho]; exact hdo, hv⟩] at hd
                    cases hd
                simp only [hne, cond_false]
                exact h7
        unfold wpOpIn
        simp only [h2]
        unfold wpListIn at hrun
        split at hrun
        · rename_i hw1
          rw [if_pos hw1]
          exact wpIn_swap (Oper.wpIn_mono (fun a' w' h => hnext a' w' h) hrun)
        · rename_i hw1
          rw [if_neg hw1]
          exact ⟨fun _ _ => trivial, hnext _ _ hrun.2⟩
  refine key _ [] _ a w.drew (by simp) (fun j => ?_) (fun j hj => by cases hj) ?_ ha hw.drew
  · constructor
    · intro h
      rw [Array.getD_eq_getD_getElem?, Array.getElem?_replicate] at h
      split at h <;> simp at h
    · intro h
      cases h
  · have := List.length_filter_le (fun j => !(Array.replicate ops.toArray.size false).getD j false) (List.range ops.length)
    simpa using this
end
end Go.Proofs.Ytcmepdamemnbkaa
namespace Go.Proofs.Ytcmepdamemnbkaa
open Go.RowKit Go.Proofs.YtcmepdamemnbkaaW.PrintWords
set_option linter.unusedVariables false
set_option linter.unusedSimpArgs false
def latStep (so : LetT → Bool) (when_ : LetT → Int) (s : LetT × Bool) (x : LetT) : LetT × Bool := if so x && (!s.2 || decide (when_ s.1 ≤ when_ x)) then (x, true) else s
def latF (so : LetT → Bool) (when_ : LetT → Int) (s : LetT × Bool) (l : List LetT) : LetT × Bool := l.foldl (latStep so when_) s
/-- a closure over letters that answers what enc tells -/
def AsksL (P : Program) (w : World) (g : Nat) (cs : List Value) (p : LetT → Value) : Prop :=
  ∀ (x : LetT) (W : World), Below w.heap.size w W → Calls P g ([Value.agg (letV x).toArray] ++ cs).toArray W fun e W' => e = .returned (p x) ∧ Below W.heap.size W W'
set_option maxHeartbeats 4000000 in
theorem latest_calls (so : LetT → Bool) (when_ : LetT → Int) (g1 g2 : Nat) (cs1 cs2 : List Value) (eg1 : ∀ args w, (callFunc g1 args).run Try.prog w = .ok (.enter g1 args) w) (eg2 : ∀ args w, (callFunc g2 args).run Try.prog w = .ok (.enter g2 args) w)
    (A : Option Addr) (c : Nat) (l : List LetT) (w : World) (hl : Kd.C letK w A l.length l) (h1 : AsksL Try.prog w g1 cs1 (fun x => .bool (so x))) (h2 : AsksL Try.prog w g2 cs2 (fun x => .int .i64 (when_ x))) :
    Calls Try.prog 60 #[.slice A l.length c, .func (.func g1) #[] cs1.toArray, .func (.func g2) #[] cs2.toArray] w fun e w' => e = .returned (.tuple #[.agg (letV (latF so when_ (zLet, false) l).1).toArray, .bool (latF so when_ (zLet, false) l).2]) ∧ Below w.heap.size w w' := by
  have hn := hl.2.1
  refine x_calls (X := XNone) Try.func60 rfl rfl rfl ?_
  with_reducible repeat refine xc_seq ?_
  with_reducible refine xc_region ?_
  refine xo_alloc T_ rfl rfl rfl rfl (fun b6 => ?_)
  refine xo_asg rfl rfl rfl ?_
  with_reducible refine xo_nil ?_
  with_reducible repeat (first | refine xq_then ?_ | refine xq_blockN ?_ | refine xq_scopeN ?_)
  with_reducible repeat refine xc_seq ?_
  with_reducible refine xc_region ?_
  refine xo_mv rfl rfl rfl ?_
  refine xo_len T_ rfl rfl rfl rfl ?_
  refine xo_mv rfl rfl rfl ?_
  with_reducible refine xo_nil ?_
  with_reducible repeat (first | refine xq_then ?_ | refine xq_blockN ?_ | refine xq_scopeN ?_)
  with_reducible repeat refine xc_seq ?_
  with_reducible refine xc_block ?_
  refine xc_loop (γ := Nat × (LetT × Bool)) (fun q => q.1 ≤ l.length ∧ latF so when_ (zLet, false) l = latF so when_ q.2 (l.drop q.1)) (fun q => [(0, .slice A l.length c), (1, .func (.func g1) #[] cs1.toArray), (2, .func (.func g2) #[] cs2.toArray), (6, .pointer (some ⟨b6, 0, none⟩)), (7, .bool q.2.2), (10, .slice A l.length c), (11, .int .i64 (l.length : Int)), (12, .int .i64 (q.1 : Int))])
    (fun q => [(b6, true, cel (letV q.2.1) 65)]) (fun q => l.length - q.1) (0, (zLet, false)) ⟨Nat.zero_le _, rfl⟩ ⟨rfl, rfl, rfl, rfl, rfl, rfl, rfl, rfl, trivial⟩ (by repeat (first | exact List.Sublist.refl _ | apply List.Sublist.cons_cons | apply List.Sublist.cons | exact List.nil_sublist _)) ?_
  rintro ⟨k, last, is⟩ ⟨hk1, hlat⟩
  simp only at hk1 hlat ⊢
  with_reducible repeat refine xc_seq ?_
  with_reducible refine xc_region ?_
  refine xo_lss rfl rfl rfl rfl ?_
  with_reducible refine xo_nil ?_
  with_reducible repeat (first | refine xq_then ?_ | refine xq_blockN ?_ | refine xq_scopeN ?_)
  with_reducible repeat refine xc_seq ?_
  refine xc_cond rfl (fun h => ?_) (fun h => ?_)
  · have hlt : k < l.length := by have := of_decide_eq_true h; omega
    obtain ⟨ad, rfl, r1⟩ := let_at hl k hlt
    rw [drop_at l zLet k hlt] at hlat
    generalize l.getD k zLet = x at *
    with_reducible refine xc_skip ?_
    with_reducible repeat (first | refine xq_then ?_ | refine xq_blockN ?_ | refine xq_scopeN ?_)
    with_reducible repeat refine xc_seq ?_
    with_reducible refine xc_block ?_
    with_reducible repeat refine xc_seq ?_
    with_reducible refine xc_region ?_
    refine xo_ia T_ rfl rfl rfl rfl rfl ⟨by omega, by omega⟩ rfl ?_
    refine xo_loadRN T_ rfl rfl rfl (by assumption) rfl rfl ?_
    refine xo_alloc T_ rfl rfl rfl rfl (fun b9 => ?_)
    refine xo_store T_ rfl rfl rfl rfl (by repeat (first | exact List.Mem.head _ | apply List.Mem.tail | apply List.mem_append_right)) rfl rfl rfl rfl (by repeat (first | exact Upd.head | apply Upd.tail | apply Upd.app)) rfl ?_
    with_reducible refine xo_nil ?_
    with_reducible repeat (first | refine xq_then ?_ | refine xq_blockN ?_ | refine xq_scopeN ?_)
    have h1x := h1 x
    have h2x := h2 x
    have h2y := h2 last
    have fin : ∀ s : LetT × Bool, latStep so when_ (last, is) x = s → latF so when_ (zLet, false) l = latF so when_ s (l.drop (k + 1)) := fun s hs => by rw [hlat, ← hs]; rfl
    cases hs : so x
    · simp only [hs] at h1x
      with_reducible repeat refine xc_seq ?_
      refine xc_draw [.func (.func g1) #[] cs1.toArray, .agg (letV x).toArray, .bool false, .bool false, undef, undef, undef, undef, undef, undef, undef, undef, undef, undef, undef, .bool false] T_.mixed rfl rfl rfl rfl rfl ⟨fun τ => ?_, fun τ => ?_, fun τ => ?_, fun τ => ?_, fun τ => ?_, fun τ => ?_, fun τ => ?_, fun τ => ?_, fun τ => ?_, fun τ => ?_, fun τ => ?_, fun τ => ?_, fun τ => ?_, fun τ => ?_, fun τ => ?_, fun τ => ?_, trivial⟩ ?_
      · refine xo_mv rfl rfl rfl ?_
        exact xo_nil fun a w ha hw => ⟨ha, hw⟩
      · refine xo_loadN T_ rfl rfl rfl (by repeat (first | exact List.Mem.head _ | apply List.Mem.tail | apply List.mem_append_right)) rfl rfl ?_
        exact xo_nil fun a w ha hw => ⟨ha, hw⟩
      · refine xo_callB (fs := []) rfl rfl rfl eg1 rfl (fun w1 hw1 => h1x w1 hw1.kx.below) ?_
        exact xo_nil fun a w ha hw => ⟨ha, hw⟩
      · refine xo_mv rfl rfl rfl ?_
        exact xo_nil fun a w ha hw => ⟨ha, hw⟩
      · first
          | refine xo_not rfl rfl ?_
          | (refine xo_mv rfl rfl rfl ?_)
        exact xo_nil fun a w ha hw => ⟨ha, hw⟩
      · first
          | refine xo_not rfl rfl ?_
          | (refine xo_notOp rfl rfl rfl ?_)
        exact xo_nil fun a w ha hw => ⟨ha, hw⟩
      · first
          | refine xo_not rfl rfl ?_
          | (refine xo_mv rfl rfl rfl ?_)
        exact xo_nil fun a w ha hw => ⟨ha, hw⟩
      · first
          | refine xo_not rfl rfl ?_
          | (refine xo_mv rfl rfl rfl ?_)
        exact xo_nil fun a w ha hw => ⟨ha, hw⟩
      · first
          | refine xo_not rfl rfl ?_
          | (refine xo_loadN T_ rfl rfl rfl (by repeat (first | exact List.Mem.head _ | apply List.Mem.tail | apply List.mem_append_right)) rfl rfl ?_)
        exact xo_nil fun a w ha hw => ⟨ha, hw⟩
      · first
          | refine xo_not rfl rfl ?_
          | (fail "NO RULE: Op.call -9")
        exact xo_nil fun a w ha hw => ⟨ha, hw⟩
      · first
          | refine xo_not rfl rfl ?_
          | (refine xo_mv rfl rfl rfl ?_)
        exact xo_nil fun a w ha hw => ⟨ha, hw⟩
      · first
          | refine xo_not rfl rfl ?_
          | (refine xo_loadN T_ rfl rfl rfl (by repeat (first | exact List.Mem.head _ | apply List.Mem.tail | apply List.mem_append_right)) rfl rfl ?_)
        exact xo_nil fun a w ha hw => ⟨ha, hw⟩
      · first
          | refine xo_not rfl rfl ?_
          | (fail "NO RULE: Op.call -12")
        exact xo_nil fun a w ha hw => ⟨ha, hw⟩
      · first
          | refine xo_not rfl rfl ?_
          | (refine xo_geq rfl rfl rfl rfl ?_)
        exact xo_nil fun a w ha hw => ⟨ha, hw⟩
      · first
          | refine xo_not rfl rfl ?_
          | (first | refine xo_pickT rfl rfl rfl rfl ?_ | refine xo_pickF rfl rfl rfl rfl ?_)
        exact xo_nil fun a w ha hw => ⟨ha, hw⟩
      · first | refine xo_pickT rfl rfl rfl rfl ?_ | refine xo_pickF rfl rfl rfl rfl ?_
        exact xo_nil fun a w ha hw => ⟨ha, hw⟩
      with_reducible repeat (first | refine xq_then ?_ | refine xq_blockN ?_ | refine xq_scopeN ?_)
      with_reducible repeat refine xc_seq ?_
      refine xc_condF rfl ?_
      with_reducible refine xc_skip ?_
      with_reducible repeat (first | refine xq_then ?_ | refine xq_blockN ?_ | refine xq_scopeN ?_)
      with_reducible repeat refine xc_seq ?_
      with_reducible refine xc_region ?_
      refine xo_add rfl rfl rfl (by omega) rfl ?_
      refine xo_mv rfl rfl rfl ?_
      with_reducible refine xo_nil ?_
      with_reducible repeat (first | refine xq_then ?_ | refine xq_blockN ?_ | refine xq_scopeN ?_)
      exact xq_again _ _ _ _ _ (k + 1, last, is) ⟨hlt, fin _ (by simp [latStep, hs])⟩ (by first | omega | (simp only; omega)) ⟨rfl, rfl, rfl, rfl, rfl, rfl, rfl, rfl, trivial⟩ (by repeat (first | exact List.Sublist.refl _ | apply List.Sublist.cons_cons | apply List.Sublist.cons | exact List.nil_sublist _))
    · simp only [hs] at h1x
      cases hi : is
      · with_reducible repeat refine xc_seq ?_
        refine xc_draw [.func (.func g1) #[] cs1.toArray, .agg (letV x).toArray, .bool true, .bool true, .bool false, .bool true, .bool true, undef, undef, undef, undef, undef, undef, undef, .bool true, .bool true] T_.mixed rfl rfl rfl rfl rfl ⟨fun τ => ?_, fun τ => ?_, fun τ => ?_, fun τ => ?_, fun τ => ?_, fun τ => ?_, fun τ => ?_, fun τ => ?_, fun τ => ?_, fun τ => ?_, fun τ => ?_, fun τ => ?_, fun τ => ?_, fun τ => ?_, fun τ => ?_, fun τ => ?_, trivial⟩ ?_
        · refine xo_mv rfl rfl rfl ?_
          exact xo_nil fun a w ha hw => ⟨ha, hw⟩
        · refine xo_loadN T_ rfl rfl rfl (by repeat (first | exact List.Mem.head _ | apply List.Mem.tail | apply List.mem_append_right)) rfl rfl ?_
          exact xo_nil fun a w ha hw => ⟨ha, hw⟩
        · refine xo_callB (fs := []) rfl rfl rfl eg1 rfl (fun w1 hw1 => h1x w1 hw1.kx.below) ?_
          exact xo_nil fun a w ha hw => ⟨ha, hw⟩
        · refine xo_mv rfl rfl rfl ?_
          exact xo_nil fun a w ha hw => ⟨ha, hw⟩
        · first
            | refine xo_not rfl rfl ?_
            | (refine xo_mv rfl rfl rfl ?_)
          exact xo_nil fun a w ha hw => ⟨ha, hw⟩
        · first
            | refine xo_not rfl rfl ?_
            | (refine xo_notOp rfl rfl rfl ?_)
          exact xo_nil fun a w ha hw => ⟨ha, hw⟩
        · first
            | refine xo_not rfl rfl ?_
            | (refine xo_mv rfl rfl rfl ?_)
          exact xo_nil fun a w ha hw => ⟨ha, hw⟩
        · first
            | refine xo_not rfl rfl ?_
            | (refine xo_mv rfl rfl rfl ?_)
          exact xo_nil fun a w ha hw => ⟨ha, hw⟩
        · first
            | refine xo_not rfl rfl ?_
            | (refine xo_loadN T_ rfl rfl rfl (by repeat (first | exact List.Mem.head _ | apply List.Mem.tail | apply List.mem_append_right)) rfl rfl ?_)
          exact xo_nil fun a w ha hw => ⟨ha, hw⟩
        · first
            | refine xo_not rfl rfl ?_
            | (fail "NO RULE: Op.call -9")
          exact xo_nil fun a w ha hw => ⟨ha, hw⟩
        · first
            | refine xo_not rfl rfl ?_
            | (refine xo_mv rfl rfl rfl ?_)
          exact xo_nil fun a w ha hw => ⟨ha, hw⟩
        · first
            | refine xo_not rfl rfl ?_
            | (refine xo_loadN T_ rfl rfl rfl (by repeat (first | exact List.Mem.head _ | apply List.Mem.tail | apply List.mem_append_right)) rfl rfl ?_)
          exact xo_nil fun a w ha hw => ⟨ha, hw⟩
        · first
            | refine xo_not rfl rfl ?_
            | (fail "NO RULE: Op.call -12")
          exact xo_nil fun a w ha hw => ⟨ha, hw⟩
        · first
            | refine xo_not rfl rfl ?_
            | (refine xo_geq rfl rfl rfl rfl ?_)
          exact xo_nil fun a w ha hw => ⟨ha, hw⟩
        · first
            | refine xo_not rfl rfl ?_
            | (first | refine xo_pickT rfl rfl rfl rfl ?_ | refine xo_pickF rfl rfl rfl rfl ?_)
          exact xo_nil fun a w ha hw => ⟨ha, hw⟩
        · first | refine xo_pickT rfl rfl rfl rfl ?_ | refine xo_pickF rfl rfl rfl rfl ?_
          exact xo_nil fun a w ha hw => ⟨ha, hw⟩
        with_reducible repeat (first | refine xq_then ?_ | refine xq_blockN ?_ | refine xq_scopeN ?_)
        with_reducible repeat refine xc_seq ?_
        refine xc_condT rfl ?_
        with_reducible repeat refine xc_seq ?_
        with_reducible refine xc_region ?_
        refine xo_loadN T_ rfl rfl rfl (by repeat (first | exact List.Mem.head _ | apply List.Mem.tail | apply List.mem_append_right)) rfl rfl ?_
        refine xo_store T_ rfl rfl rfl rfl (by repeat (first | exact List.Mem.head _ | apply List.Mem.tail | apply List.mem_append_right)) rfl rfl rfl rfl (by repeat (first | exact Upd.head | apply Upd.tail | apply Upd.app)) rfl ?_
        refine xo_asg rfl rfl rfl ?_
        with_reducible refine xo_nil ?_
        with_reducible repeat (first | refine xq_then ?_ | refine xq_blockN ?_ | refine xq_scopeN ?_)
        with_reducible repeat refine xc_seq ?_
        with_reducible refine xc_region ?_
        refine xo_add rfl rfl rfl (by omega) rfl ?_
        refine xo_mv rfl rfl rfl ?_
        with_reducible refine xo_nil ?_
        with_reducible repeat (first | refine xq_then ?_ | refine xq_blockN ?_ | refine xq_scopeN ?_)
        exact xq_again _ _ _ _ _ (k + 1, x, true) ⟨hlt, fin _ (by simp [latStep, hs, hi])⟩ (by first | omega | (simp only; omega)) ⟨rfl, rfl, rfl, rfl, rfl, rfl, rfl, rfl, trivial⟩ (by repeat (first | exact List.Sublist.refl _ | apply List.Sublist.cons_cons | apply List.Sublist.cons | exact List.nil_sublist _))
      · with_reducible repeat refine xc_seq ?_
        refine xc_draw [.func (.func g1) #[] cs1.toArray, .agg (letV x).toArray, .bool true, .bool true, .bool true, .bool false, .bool false, .func (.func g2) #[] cs2.toArray, .agg (letV x).toArray, .int .i64 (when_ x), .func (.func g2) #[] cs2.toArray, .agg (letV last).toArray, .int .i64 (when_ last), .bool (decide (when_ last ≤ when_ x)), .bool (decide (when_ last ≤ when_ x)), .bool (decide (when_ last ≤ when_ x))] T_.mixed rfl rfl rfl rfl rfl ⟨fun τ => ?_, fun τ => ?_, fun τ => ?_, fun τ => ?_, fun τ => ?_, fun τ => ?_, fun τ => ?_, fun τ => ?_, fun τ => ?_, fun τ => ?_, fun τ => ?_, fun τ => ?_, fun τ => ?_, fun τ => ?_, fun τ => ?_, fun τ => ?_, trivial⟩ ?_
        · refine xo_mv rfl rfl rfl ?_
          exact xo_nil fun a w ha hw => ⟨ha, hw⟩
        · refine xo_loadN T_ rfl rfl rfl (by repeat (first | exact List.Mem.head _ | apply List.Mem.tail | apply List.mem_append_right)) rfl rfl ?_
          exact xo_nil fun a w ha hw => ⟨ha, hw⟩
        · refine xo_callB (fs := []) rfl rfl rfl eg1 rfl (fun w1 hw1 => h1x w1 hw1.kx.below) ?_
          exact xo_nil fun a w ha hw => ⟨ha, hw⟩
        · refine xo_mv rfl rfl rfl ?_
          exact xo_nil fun a w ha hw => ⟨ha, hw⟩
        · first
            | refine xo_not rfl rfl ?_
            | (refine xo_mv rfl rfl rfl ?_)
          exact xo_nil fun a w ha hw => ⟨ha, hw⟩
        · first
            | refine xo_not rfl rfl ?_
            | (refine xo_notOp rfl rfl rfl ?_)
          exact xo_nil fun a w ha hw => ⟨ha, hw⟩
        · first
            | refine xo_not rfl rfl ?_
            | (refine xo_mv rfl rfl rfl ?_)
          exact xo_nil fun a w ha hw => ⟨ha, hw⟩
        · first
            | refine xo_not rfl rfl ?_
            | (refine xo_mv rfl rfl rfl ?_)
          exact xo_nil fun a w ha hw => ⟨ha, hw⟩
        · first
            | refine xo_not rfl rfl ?_
            | (refine xo_loadN T_ rfl rfl rfl (by repeat (first | exact List.Mem.head _ | apply List.Mem.tail | apply List.mem_append_right)) rfl rfl ?_)
          exact xo_nil fun a w ha hw => ⟨ha, hw⟩
        · first
            | refine xo_not rfl rfl ?_
            | (refine xo_callB (fs := []) rfl rfl rfl eg2 rfl (fun w1 hw1 => h2x w1 hw1.kx.below) ?_)
          exact xo_nil fun a w ha hw => ⟨ha, hw⟩
        · first
            | refine xo_not rfl rfl ?_
            | (refine xo_mv rfl rfl rfl ?_)
          exact xo_nil fun a w ha hw => ⟨ha, hw⟩
        · first
            | refine xo_not rfl rfl ?_
            | (refine xo_loadN T_ rfl rfl rfl (by repeat (first | exact List.Mem.head _ | apply List.Mem.tail | apply List.mem_append_right)) rfl rfl ?_)
          exact xo_nil fun a w ha hw => ⟨ha, hw⟩
        · first
            | refine xo_not rfl rfl ?_
            | (refine xo_callB (fs := []) rfl rfl rfl eg2 rfl (fun w1 hw1 => h2y w1 hw1.kx.below) ?_)
          exact xo_nil fun a w ha hw => ⟨ha, hw⟩
        · first
            | refine xo_not rfl rfl ?_
            | (refine xo_geq rfl rfl rfl rfl ?_)
          exact xo_nil fun a w ha hw => ⟨ha, hw⟩
        · first
            | refine xo_not rfl rfl ?_
            | (first | refine xo_pickT rfl rfl rfl rfl ?_ | refine xo_pickF rfl rfl rfl rfl ?_)
          exact xo_nil fun a w ha hw => ⟨ha, hw⟩
        · first | refine xo_pickT rfl rfl rfl rfl ?_ | refine xo_pickF rfl rfl rfl rfl ?_
          exact xo_nil fun a w ha hw => ⟨ha, hw⟩
        with_reducible repeat (first | refine xq_then ?_ | refine xq_blockN ?_ | refine xq_scopeN ?_)
        with_reducible repeat refine xc_seq ?_
        refine xc_cond rfl (fun hd => ?_) (fun hd => ?_)
        · with_reducible repeat refine xc_seq ?_
          with_reducible refine xc_region ?_
          refine xo_loadN T_ rfl rfl rfl (by repeat (first | exact List.Mem.head _ | apply List.Mem.tail | apply List.mem_append_right)) rfl rfl ?_
          refine xo_store T_ rfl rfl rfl rfl (by repeat (first | exact List.Mem.head _ | apply List.Mem.tail | apply List.mem_append_right)) rfl rfl rfl rfl (by repeat (first | exact Upd.head | apply Upd.tail | apply Upd.app)) rfl ?_
          refine xo_asg rfl rfl rfl ?_
          with_reducible refine xo_nil ?_
          with_reducible repeat (first | refine xq_then ?_ | refine xq_blockN ?_ | refine xq_scopeN ?_)
          with_reducible repeat refine xc_seq ?_
          with_reducible refine xc_region ?_
          refine xo_add rfl rfl rfl (by omega) rfl ?_
          refine xo_mv rfl rfl rfl ?_
          with_reducible refine xo_nil ?_
          with_reducible repeat (first | refine xq_then ?_ | refine xq_blockN ?_ | refine xq_scopeN ?_)
          exact xq_again _ _ _ _ _ (k + 1, x, true) ⟨hlt, fin _ (by simp [latStep, hs, hi, hd])⟩ (by first | omega | (simp only; omega)) ⟨rfl, rfl, rfl, rfl, rfl, rfl, rfl, rfl, trivial⟩ (by repeat (first | exact List.Sublist.refl _ | apply List.Sublist.cons_cons | apply List.Sublist.cons | exact List.nil_sublist _))
        · with_reducible refine xc_skip ?_
          with_reducible repeat (first | refine xq_then ?_ | refine xq_blockN ?_ | refine xq_scopeN ?_)
          with_reducible repeat refine xc_seq ?_
          with_reducible refine xc_region ?_
          refine xo_add rfl rfl rfl (by omega) rfl ?_
          refine xo_mv rfl rfl rfl ?_
          with_reducible refine xo_nil ?_
          with_reducible repeat (first | refine xq_then ?_ | refine xq_blockN ?_ | refine xq_scopeN ?_)
          exact xq_again _ _ _ _ _ (k + 1, last, true) ⟨hlt, fin _ (by simp [latStep, hs, hi, hd])⟩ (by first | omega | (simp only; omega)) ⟨rfl, rfl, rfl, rfl, rfl, rfl, rfl, rfl, trivial⟩ (by repeat (first | exact List.Sublist.refl _ | apply List.Sublist.cons_cons | apply List.Sublist.cons | exact List.nil_sublist _))
  · have hge : ¬ k < l.length := by have := of_decide_eq_false h; omega
    rw [List.drop_of_length_le (by omega)] at hlat
    with_reducible refine xc_exit ?_
    with_reducible repeat (first | refine xq_blockX ?_ | refine xq_thenE ?_ | refine xq_blockE rfl ?_ | refine xq_scopeE ?_)
    with_reducible repeat (first | refine xq_then ?_ | refine xq_blockN ?_ | refine xq_scopeN ?_)
    with_reducible repeat refine xc_seq ?_
    with_reducible refine xc_region ?_
    refine xo_loadN T_ rfl rfl rfl (by repeat (first | exact List.Mem.head _ | apply List.Mem.tail | apply List.mem_append_right)) rfl rfl ?_
    refine xo_mv rfl rfl rfl ?_
    refine xo_store T_ rfl rfl rfl rfl (by repeat (first | exact List.Mem.head _ | apply List.Mem.tail | apply List.mem_append_right)) rfl rfl rfl rfl (by repeat (first | exact Upd.head | apply Upd.tail | apply Upd.app)) rfl ?_
    refine xo_asg rfl rfl rfl ?_
    with_reducible refine xo_nil ?_
    with_reducible repeat (first | refine xq_then ?_ | refine xq_blockN ?_ | refine xq_scopeN ?_)
    with_reducible repeat refine xc_seq ?_
    with_reducible refine xc_ret ?_
    with_reducible repeat (first | refine xq_thenR ?_ | refine xq_blockR ?_ | refine xq_scopeR ?_)
    refine xq_retC1 T_ rfl rfl rfl rfl (by repeat (first | exact List.Mem.head _ | apply List.Mem.tail | apply List.mem_append_right)) rfl fun w' hw => ⟨?_, hw.kx.below⟩
    rw [hlat]
    rfl
end Go.Proofs.Ytcmepdamemnbkaa
namespace Go.Proofs.Ytcmepdamemnbkaa
open Go.RowKit Go.Proofs.YtcmepdamemnbkaaW.PrintWords
set_option linter.unusedVariables false
set_option linter.unusedSimpArgs false
theorem latest_enters : ∀ args w, (callFunc 60 args).run Try.prog w = .ok (.enter 60 args) w := enters_of Try.func60 (by kernel_rfl) rfl
theorem on1_calls (x : LetT) (y : RecT) (A2 : Option Addr) (c2 : Nat) (day : Int) (B C : Nat) (w : World) (hB : w.cell? ⟨B, 0, none⟩ = some (.int .i64 y.f0)) (hC : w.cell? ⟨C, 0, none⟩ = some (.int .i64 day)) :
    Calls Try.prog 59 #[.agg (letV x).toArray, .pointer (some ⟨B, 0, none⟩), .pointer (some ⟨C, 0, none⟩)] w fun e w' => e = .returned (.bool (decide (x.f2 = y.f0) && decide (x.f1 ≤ day))) ∧ Below w.heap.size w w' := by
  have r1 : RO w XNone ((⟨B, 0, none⟩ : Addr).add 0) [.int .i64 y.f0] := by rw [Addr.add_zero']; exact ro1 hB
  have r2 := ro1 hC
  refine x_calls (X := XNone) Try.func59 rfl rfl rfl ?_
  with_reducible repeat refine xc_seq ?_
  with_reducible refine xc_region ?_
  refine xo_box rfl rfl rfl rfl (fun b3 => ?_)
  refine xo_asg rfl rfl rfl ?_
  with_reducible refine xo_nil ?_
  with_reducible repeat (first | refine xq_then ?_ | refine xq_blockN ?_ | refine xq_scopeN ?_)
  cases h : decide (x.f2 = y.f0)
  all_goals
    with_reducible repeat refine xc_seq ?_
    with_reducible refine xc_region ?_
    refine xo_fa T_ rfl rfl rfl rfl rfl ?_
    refine xo_load0 T_ rfl rfl rfl (by repeat (first | exact List.Mem.head _ | apply List.Mem.tail | apply List.mem_append_right)) rfl rfl ?_
    refine xo_faR T_ rfl rfl rfl rfl rfl ?_
    refine xo_loadR0 T_ rfl rfl rfl (by first | assumption | exact RO.fld (by assumption) rfl) rfl ?_
    refine xo_eql rfl rfl rfl rfl ?_
    refine xo_mv rfl rfl rfl ?_
    refine xo_as (i := 10) rfl (congrArg Value.bool h) ?_
    first
      | refine xo_not rfl rfl ?_
      | (refine xo_fa T_ rfl rfl rfl rfl rfl ?_)
    first
      | refine xo_not rfl rfl ?_
      | (refine xo_load0 T_ rfl rfl rfl (by repeat (first | exact List.Mem.head _ | apply List.Mem.tail | apply List.mem_append_right)) rfl rfl ?_)
    first
      | refine xo_not rfl rfl ?_
      | (refine xo_loadR0 T_ rfl rfl rfl (by first | assumption | exact RO.fld (by assumption) rfl) rfl ?_)
    first
      | refine xo_not rfl rfl ?_
      | (refine xo_leq rfl rfl rfl rfl ?_)
    first | refine xo_pickT rfl rfl rfl rfl ?_ | refine xo_pickF rfl rfl rfl rfl ?_
    refine xo_asg rfl rfl rfl ?_
    with_reducible refine xo_nil ?_
    with_reducible repeat (first | refine xq_then ?_ | refine xq_blockN ?_ | refine xq_scopeN ?_)
    with_reducible repeat refine xc_seq ?_
    with_reducible refine xc_ret ?_
    with_reducible repeat (first | refine xq_thenR ?_ | refine xq_blockR ?_ | refine xq_scopeR ?_)
    exact xq_ret1 rfl rfl fun w' hw => ⟨rfl, hw.kx.below⟩
theorem on2_calls (x : LetT) (w : World) : Calls Try.prog 61 #[.agg (letV x).toArray] w fun e w' => e = .returned (.int .i64 x.f1) ∧ Below w.heap.size w w' := by
  refine x_calls (X := XNone) Try.func61 rfl rfl rfl ?_
  with_reducible repeat refine xc_seq ?_
  with_reducible refine xc_region ?_
  refine xo_box rfl rfl rfl rfl (fun b1 => ?_)
  refine xo_asg rfl rfl rfl ?_
  with_reducible refine xo_nil ?_
  with_reducible repeat (first | refine xq_then ?_ | refine xq_blockN ?_ | refine xq_scopeN ?_)
  with_reducible repeat refine xc_seq ?_
  with_reducible refine xc_region ?_
  refine xo_fa T_ rfl rfl rfl rfl rfl ?_
  refine xo_load0 T_ rfl rfl rfl (by repeat (first | exact List.Mem.head _ | apply List.Mem.tail | apply List.mem_append_right)) rfl rfl ?_
  refine xo_asg rfl rfl rfl ?_
  with_reducible refine xo_nil ?_
  with_reducible repeat (first | refine xq_then ?_ | refine xq_blockN ?_ | refine xq_scopeN ?_)
  with_reducible repeat refine xc_seq ?_
  with_reducible refine xc_ret ?_
  with_reducible repeat (first | refine xq_thenR ?_ | refine xq_blockR ?_ | refine xq_scopeR ?_)
  exact xq_ret1 rfl rfl fun w' hw => ⟨rfl, hw.kx.below⟩
def lastF (l : List LetT) (day id : Int) : LetT × Bool := latF (fun y => decide (y.f2 = id) && decide (y.f1 ≤ day)) (fun y => y.f1) (zLet, false) l
def goneB (l : List LetT) (day id : Int) : Bool := (lastF l day id).2 && decide ((lastF l day id).1.f3 = 1)
def goneL (l : List LetT) (day : Int) : List Int → List RecT → List Int
  | acc, [] => acc
  | acc, x :: r => goneL l day (if goneB l day x.f0 then insN x.f0 acc else acc) r
def goneF (r : List RecT) (l : List LetT) (day : Int) : List Int := goneL l day [] r
set_option maxHeartbeats 4000000 in
theorem on_calls (A B : Option Addr) (c c' : Nat) (r : List RecT) (l : List LetT) (day : Int) (w : World) (hr : Kd.C recK w A r.length r) (hl : Kd.C letK w B l.length l) :
    Calls Try.prog 45 #[.slice A r.length c, .slice B l.length c', .int .i64 day] w fun e w' => ∃ M, e = .returned (.agg #[.slice A r.length c, .map (some M)]) ∧ w.heap.size ≤ M ∧ IMap w' M (setV (goneF r l day)) ∧ Below w.heap.size w w' := by
  have hn := hr.2.1
  have eg1 : ∀ args w, (callFunc 59 args).run Try.prog w = .ok (.enter 59 args) w := enters_of Try.func59 (by kernel_rfl) rfl
  have eg2 : ∀ args w, (callFunc 61 args).run Try.prog w = .ok (.enter 61 args) w := enters_of Try.func61 (by kernel_rfl) rfl
  refine x_calls (X := XNone) Try.func45 rfl rfl rfl ?_
  with_reducible repeat refine xc_seq ?_
  with_reducible refine xc_region ?_
  refine xo_box rfl rfl rfl rfl (fun b5 => ?_)
  refine xo_alloc T_ rfl rfl rfl rfl (fun b6 => ?_)
  with_reducible refine xo_nil ?_
  with_reducible repeat (first | refine xq_then ?_ | refine xq_blockN ?_ | refine xq_scopeN ?_)
  with_reducible repeat refine xc_seq ?_
  with_reducible refine xc_region ?_
  refine xo_mv rfl rfl rfl ?_
  refine xo_mkm rfl rfl (fun b14 => ?_)
  refine xo_build TB_ rfl rfl rfl rfl rfl ?_
  refine xo_alloc T_ rfl rfl rfl rfl (fun b7 => ?_)
  refine xo_store T_ rfl rfl rfl rfl (by repeat (first | exact List.Mem.head _ | apply List.Mem.tail | apply List.mem_append_right)) rfl rfl rfl rfl (by repeat (first | exact Upd.head | apply Upd.tail | apply Upd.app)) rfl ?_
  with_reducible refine xo_nil ?_
  with_reducible repeat (first | refine xq_then ?_ | refine xq_blockN ?_ | refine xq_scopeN ?_)
  with_reducible repeat refine xc_seq ?_
  with_reducible refine xc_region ?_
  refine xo_mv rfl rfl rfl ?_
  refine xo_len T_ rfl rfl rfl rfl ?_
  refine xo_mv rfl rfl rfl ?_
  with_reducible refine xo_nil ?_
  with_reducible repeat (first | refine xq_then ?_ | refine xq_blockN ?_ | refine xq_scopeN ?_)
  with_reducible repeat refine xc_seq ?_
  with_reducible refine xc_block ?_
  refine xc_loop (γ := Nat × List Int) (fun q => q.1 ≤ r.length ∧ goneF r l day = goneL l day q.2 (r.drop q.1)) (fun q => [(0, .slice A r.length c), (1, .slice B l.length c'), (5, .pointer (some ⟨b5, 0, none⟩)), (6, .pointer (some ⟨b6, 0, none⟩)), (7, .pointer (some ⟨b7, 0, none⟩)), (16, .slice A r.length c), (17, .int .i64 (r.length : Int)), (18, .int .i64 (q.1 : Int))])
    (fun q => [(b7, true, cel [.slice A r.length c, .map (some b14)] 46), (b14, true, hmap (setV q.2)), (b6, true, cel [.slice none 0 0, .map none] 46), (b5, true, cel [.int .i64 day] 3)]) (fun q => r.length - q.1) (0, []) ⟨Nat.zero_le _, rfl⟩ ⟨rfl, rfl, rfl, rfl, rfl, rfl, rfl, rfl, trivial⟩ (by repeat (first | exact List.Sublist.refl _ | apply List.Sublist.cons_cons | apply List.Sublist.cons | exact List.nil_sublist _)) ?_
  rintro ⟨k, acc⟩ ⟨hk1, hgone⟩
  simp only at hk1 hgone ⊢
  with_reducible repeat refine xc_seq ?_
  with_reducible refine xc_region ?_
  refine xo_lss rfl rfl rfl rfl ?_
  with_reducible refine xo_nil ?_
  with_reducible repeat (first | refine xq_then ?_ | refine xq_blockN ?_ | refine xq_scopeN ?_)
  with_reducible repeat refine xc_seq ?_
  refine xc_cond rfl (fun h => ?_) (fun h => ?_)
  · have hlt : k < r.length := by have := of_decide_eq_true h; omega
    obtain ⟨ad, A2, c2, rfl, r1, hc2, hw2⟩ := rec_at hr k hlt
    rw [drop_at r zRec k hlt, goneL] at hgone
    generalize r.getD k zRec = x at *
    with_reducible refine xc_skip ?_
    with_reducible repeat (first | refine xq_then ?_ | refine xq_blockN ?_ | refine xq_scopeN ?_)
    with_reducible repeat refine xc_seq ?_
    with_reducible refine xc_block ?_
    with_reducible repeat refine xc_seq ?_
    with_reducible refine xc_region ?_
    refine xo_ia T_ rfl rfl rfl rfl rfl ⟨by omega, by omega⟩ rfl ?_
    refine xo_loadRN T_ rfl rfl rfl (by assumption) rfl rfl ?_
    refine xo_alloc T_ rfl rfl rfl rfl (fun b9 => ?_)
    refine xo_store T_ rfl rfl rfl rfl (by repeat (first | exact List.Mem.head _ | apply List.Mem.tail | apply List.mem_append_right)) rfl rfl rfl rfl (by repeat (first | exact Upd.head | apply Upd.tail | apply Upd.app)) rfl ?_
    with_reducible refine xo_nil ?_
    with_reducible repeat (first | refine xq_then ?_ | refine xq_blockN ?_ | refine xq_scopeN ?_)
    with_reducible repeat refine xc_seq ?_
    with_reducible refine xc_region ?_
    refine xo_mkf rfl rfl rfl rfl ?_
    refine xo_asg rfl rfl rfl ?_
    with_reducible refine xo_nil ?_
    with_reducible repeat (first | refine xq_then ?_ | refine xq_blockN ?_ | refine xq_scopeN ?_)
    with_reducible repeat refine xc_seq ?_
    with_reducible refine xc_region ?_
    refine xo_mv rfl rfl rfl ?_
    refine xo_mv rfl rfl rfl ?_
    refine xo_callB (fs := []) (cs := []) rfl rfl rfl latest_enters rfl (fun w1 hw1 => latest_calls (fun y => decide (y.f2 = x.f0) && decide (y.f1 ≤ day)) (fun y => y.f1) _ _ [.pointer (some ⟨b9, 0, none⟩), .pointer (some ⟨b5, 0, none⟩)] [] eg1 eg2 B c' l w1 (Kd.C_below hl hw1.kx.below)
      (fun y W hW => on1_calls y x A2 c2 day b9 b5 W ((hw1.below hW).cell (by repeat (first | exact List.Mem.head _ | apply List.Mem.tail | apply List.mem_append_right)) 0 rfl) ((hw1.below hW).cell (by repeat (first | exact List.Mem.head _ | apply List.Mem.tail | apply List.mem_append_right)) 0 rfl)) (fun y W hW => on2_calls y W)) ?_
    refine xo_mv rfl rfl rfl ?_
    refine xo_ext rfl rfl rfl rfl ?_
    refine xo_ext rfl rfl rfl rfl ?_
    refine xo_alloc T_ rfl rfl rfl rfl (fun b11 => ?_)
    refine xo_store T_ rfl rfl rfl rfl (by repeat (first | exact List.Mem.head _ | apply List.Mem.tail | apply List.mem_append_right)) rfl rfl rfl rfl (by repeat (first | exact Upd.head | apply Upd.tail | apply Upd.app)) rfl ?_
    refine xo_asg rfl rfl rfl ?_
    with_reducible refine xo_nil ?_
    with_reducible repeat (first | refine xq_then ?_ | refine xq_blockN ?_ | refine xq_scopeN ?_)
    cases hs : (lastF l day x.f0).2 <;> cases h3 : decide ((lastF l day x.f0).1.f3 = 1)
    all_goals
      with_reducible repeat refine xc_seq ?_
      with_reducible refine xc_region ?_
      refine xo_as (i := 12) rfl (congrArg Value.bool hs) ?_
      refine xo_mv rfl rfl rfl ?_
      refine xo_mv rfl rfl rfl ?_
      first
        | refine xo_not rfl rfl ?_
        | (refine xo_fa T_ rfl rfl rfl rfl rfl ?_)
      first
        | refine xo_not rfl rfl ?_
        | (refine xo_load0 T_ rfl rfl rfl (by repeat (first | exact List.Mem.head _ | apply List.Mem.tail | apply List.mem_append_right)) rfl rfl ?_)
      first
        | refine xo_not rfl rfl ?_
        | (refine xo_eql rfl rfl rfl rfl ?_)
      first | refine xo_pickT rfl rfl rfl rfl ?_ | refine xo_pickF rfl rfl rfl rfl ?_
      first | refine xo_as (i := 34) rfl (congrArg Value.bool h3) ?_ | skip
      with_reducible refine xo_nil ?_
      with_reducible repeat (first | refine xq_then ?_ | refine xq_blockN ?_ | refine xq_scopeN ?_)
      with_reducible repeat refine xc_seq ?_
      first | refine xc_condT rfl ?_ | refine xc_condF rfl ?_
    iterate 3
      · with_reducible refine xc_skip ?_
        with_reducible repeat (first | refine xq_then ?_ | refine xq_blockN ?_ | refine xq_scopeN ?_)
        with_reducible repeat refine xc_seq ?_
        with_reducible refine xc_region ?_
        refine xo_add rfl rfl rfl (by omega) rfl ?_
        refine xo_mv rfl rfl rfl ?_
        with_reducible refine xo_nil ?_
        with_reducible repeat (first | refine xq_then ?_ | refine xq_blockN ?_ | refine xq_scopeN ?_)
        refine xq_again _ _ _ _ _ (k + 1, acc) ⟨hlt, ?_⟩ (by first | omega | (simp only; omega)) ⟨rfl, rfl, rfl, rfl, rfl, rfl, rfl, rfl, trivial⟩ (by repeat (first | exact List.Sublist.refl _ | apply List.Sublist.cons_cons | apply List.Sublist.cons | exact List.nil_sublist _))
        simpa only [goneB, hs, h3, Bool.and_self, Bool.false_and, Bool.and_false, Bool.false_eq_true, ↓reduceIte] using hgone
    with_reducible repeat refine xc_seq ?_
    with_reducible refine xc_region ?_
    refine xo_fa T_ rfl rfl rfl rfl rfl ?_
    refine xo_load0 T_ rfl rfl rfl (by repeat (first | exact List.Mem.head _ | apply List.Mem.tail | apply List.mem_append_right)) rfl rfl ?_
    refine xo_fa T_ rfl rfl rfl rfl rfl ?_
    refine xo_load0 T_ rfl rfl rfl (by repeat (first | exact List.Mem.head _ | apply List.Mem.tail | apply List.mem_append_right)) rfl rfl ?_
    refine xo_sins T_ rfl rfl rfl rfl rfl rfl (by repeat (first | exact List.Mem.head _ | apply List.Mem.tail | apply List.mem_append_right)) (by repeat (first | exact Upd.head | apply Upd.tail | apply Upd.app)) rfl ?_
    with_reducible refine xo_nil ?_
    with_reducible repeat (first | refine xq_then ?_ | refine xq_blockN ?_ | refine xq_scopeN ?_)
    with_reducible repeat refine xc_seq ?_
    with_reducible refine xc_region ?_
    refine xo_add rfl rfl rfl (by omega) rfl ?_
    refine xo_mv rfl rfl rfl ?_
    with_reducible refine xo_nil ?_
    with_reducible repeat (first | refine xq_then ?_ | refine xq_blockN ?_ | refine xq_scopeN ?_)
    refine xq_again _ _ _ _ _ (k + 1, insN x.f0 acc) ⟨hlt, ?_⟩ (by first | omega | (simp only; omega)) ⟨rfl, rfl, rfl, rfl, rfl, rfl, rfl, rfl, trivial⟩ (by repeat (first | exact List.Sublist.refl _ | apply List.Sublist.cons_cons | apply List.Sublist.cons | exact List.nil_sublist _))
    simpa only [goneB, hs, h3, Bool.and_self, ↓reduceIte] using hgone
  · have hge : ¬ k < r.length := by have := of_decide_eq_false h; omega
    rw [List.drop_of_length_le (by omega)] at hgone
    with_reducible refine xc_exit ?_
    with_reducible repeat (first | refine xq_blockX ?_ | refine xq_thenE ?_ | refine xq_blockE rfl ?_ | refine xq_scopeE ?_)
    with_reducible repeat (first | refine xq_then ?_ | refine xq_blockN ?_ | refine xq_scopeN ?_)
    with_reducible repeat refine xc_seq ?_
    with_reducible refine xc_region ?_
    refine xo_loadN T_ rfl rfl rfl (by repeat (first | exact List.Mem.head _ | apply List.Mem.tail | apply List.mem_append_right)) rfl rfl ?_
    refine xo_store T_ rfl rfl rfl rfl (by repeat (first | exact List.Mem.head _ | apply List.Mem.tail | apply List.mem_append_right)) rfl rfl rfl rfl (by repeat (first | exact Upd.head | apply Upd.tail | apply Upd.app)) rfl ?_
    with_reducible refine xo_nil ?_
    with_reducible repeat (first | refine xq_then ?_ | refine xq_blockN ?_ | refine xq_scopeN ?_)
    with_reducible repeat refine xc_seq ?_
    with_reducible refine xc_ret ?_
    with_reducible repeat (first | refine xq_thenR ?_ | refine xq_blockR ?_ | refine xq_scopeR ?_)
    refine xq_retC T_ rfl rfl rfl (by repeat (first | exact List.Mem.head _ | apply List.Mem.tail | apply List.mem_append_right)) rfl fun w' hw => ⟨b14, rfl, ?_, ?_, hw.kx.below⟩
    · rcases hw.ow (b14, true, hmap (setV acc)) (by repeat (first | exact List.Mem.head _ | apply List.Mem.tail | apply List.mem_append_right)) rfl with h1 | h1
      · exact h1
      · exact h1.elim
    · rw [hgone]
      exact hw.imap (wr := true) (by repeat (first | exact List.Mem.head _ | apply List.Mem.tail | apply List.mem_append_right))
theorem WOK.startM (X : Nat → Prop) {w : World} {M : Nat} {l : List (Int × Value)} (h : IMap w M l) : WOK w X [(M, false, hmap l)] w := by
  refine ⟨Kx.refl X w, ?_, by simp, ?_⟩
  · intro e he
    simp only [List.mem_singleton] at he
    subst he
    obtain ⟨o, h1, h2⟩ := hmap_of h
    exact ⟨o, h1, h2⟩
  · intro e he hw
    simp only [List.mem_singleton] at he
    subst he
    cases hw
def allIn (bs : List Int) (w : List Int) : Bool := w.all fun n => decide (n ∈ bs)
theorem allIn_cons (bs : List Int) (n : Int) (w : List Int) : allIn bs (n :: w) = (decide (n ∈ bs) && allIn bs w) := rfl
def standsF (bs : List Int) (ways : List (List Int)) : Bool := decide (ways.length = 0) || ways.any (allIn bs)
set_option maxHeartbeats 4000000 in
theorem stands_calls (id kd : Int) (A : Option Addr) (c M : Nat) (ways : List (List Int)) (bs : List Int) (w : World) (hr : Kd.C waysK w A ways.length ways) (hM : IMap w M (setV bs)) :
    Calls Try.prog 48 #[.agg #[.int .i64 id, .int .u8 kd, .slice A ways.length c, .map (some M)]] w fun e w' => e = .returned (.bool (standsF bs ways)) ∧ Below w.heap.size w w' := by
  have hn := hr.2.1
  refine x_callsH (X := XNone) Try.func48 rfl rfl rfl (WOK.startM XNone hM) ?_
  with_reducible repeat refine xc_seq ?_
  with_reducible refine xc_region ?_
  refine xo_box rfl rfl rfl rfl (fun b1 => ?_)
  refine xo_asg rfl rfl rfl ?_
  with_reducible refine xo_nil ?_
  with_reducible repeat (first | refine xq_then ?_ | refine xq_blockN ?_ | refine xq_scopeN ?_)
  refine xc_scope ?_
  with_reducible repeat refine xc_seq ?_
  with_reducible refine xc_region ?_
  refine xo_fa T_ rfl rfl rfl rfl rfl ?_
  refine xo_fa T_ rfl rfl rfl rfl rfl ?_
  refine xo_load0 T_ rfl rfl rfl (by repeat (first | exact List.Mem.head _ | apply List.Mem.tail | apply List.mem_append_right)) rfl rfl ?_
  refine xo_len T_ rfl rfl rfl rfl ?_
  refine xo_eql rfl rfl rfl rfl ?_
  with_reducible refine xo_nil ?_
  with_reducible repeat (first | refine xq_then ?_ | refine xq_blockN ?_ | refine xq_scopeN ?_)
  with_reducible repeat refine xc_seq ?_
  refine xc_cond rfl (fun h => ?_) (fun h => ?_)
  · with_reducible repeat refine xc_seq ?_
    with_reducible refine xc_region ?_
    refine xo_asg rfl rfl rfl ?_
    with_reducible refine xo_nil ?_
    with_reducible repeat (first | refine xq_then ?_ | refine xq_blockN ?_ | refine xq_scopeN ?_)
    with_reducible repeat refine xc_seq ?_
    with_reducible refine xc_ret ?_
    with_reducible repeat (first | refine xq_thenR ?_ | refine xq_blockR ?_ | refine xq_scopeR ?_)
    refine xq_ret1 rfl rfl fun w' hw => ⟨?_, hw.kx.below⟩
    rw [standsF, show decide (ways.length = 0) = true from decide_eq_true (by have := of_decide_eq_true h; omega)]
    rfl
  have hd : decide (ways.length = 0) = false := decide_eq_false (by have := of_decide_eq_false h; omega)
  with_reducible refine xc_skip ?_
  with_reducible repeat (first | refine xq_then ?_ | refine xq_blockN ?_ | refine xq_scopeN ?_)
  with_reducible repeat refine xc_seq ?_
  refine xc_label ?_
  with_reducible repeat (first | refine xq_then ?_ | refine xq_blockN ?_ | refine xq_scopeN ?_)
  with_reducible repeat refine xc_seq ?_
  with_reducible refine xc_region ?_
  refine xo_fa T_ rfl rfl rfl rfl rfl ?_
  refine xo_fa T_ rfl rfl rfl rfl rfl ?_
  refine xo_load0 T_ rfl rfl rfl (by repeat (first | exact List.Mem.head _ | apply List.Mem.tail | apply List.mem_append_right)) rfl rfl ?_
  refine xo_len T_ rfl rfl rfl rfl ?_
  refine xo_mv rfl rfl rfl ?_
  with_reducible refine xo_nil ?_
  with_reducible repeat (first | refine xq_then ?_ | refine xq_blockN ?_ | refine xq_scopeN ?_)
  with_reducible repeat refine xc_seq ?_
  with_reducible refine xc_block ?_
  refine xc_loop (γ := Nat) (fun j => j ≤ ways.length ∧ ways.any (allIn bs) = (ways.drop j).any (allIn bs)) (fun j => [(1, .pointer (some ⟨b1, 0, none⟩)), (14, .slice A ways.length c), (15, .int .i64 (ways.length : Int)), (16, .int .i64 (j : Int))])
    (fun _ => [(b1, true, cel [.int .i64 id, .int .u8 kd, .slice A ways.length c, .map (some M)] 77), (M, false, hmap (setV bs))]) (fun j => ways.length - j) 0 ⟨Nat.zero_le _, rfl⟩ ⟨rfl, rfl, rfl, rfl, trivial⟩ (by repeat (first | exact List.Sublist.refl _ | apply List.Sublist.cons_cons | apply List.Sublist.cons | exact List.nil_sublist _)) ?_
  rintro j ⟨hj, hany⟩
  with_reducible repeat refine xc_seq ?_
  with_reducible refine xc_region ?_
  refine xo_lss rfl rfl rfl rfl ?_
  with_reducible refine xo_nil ?_
  with_reducible repeat (first | refine xq_then ?_ | refine xq_blockN ?_ | refine xq_scopeN ?_)
  with_reducible repeat refine xc_seq ?_
  refine xc_cond rfl (fun hj2 => ?_) (fun hj2 => ?_)
  · have hjl : j < ways.length := by have := of_decide_eq_true hj2; omega
    obtain ⟨ad, A3, c3, rfl, r2, hc3, hw3⟩ := way_at hr j hjl
    rw [drop_at ways [] j hjl, List.any_cons] at hany
    generalize ways.getD j [] = way at *
    have hm3 := hw3.2.1
    with_reducible refine xc_skip ?_
    with_reducible repeat (first | refine xq_then ?_ | refine xq_blockN ?_ | refine xq_scopeN ?_)
    with_reducible repeat refine xc_seq ?_
    with_reducible refine xc_block ?_
    with_reducible repeat refine xc_seq ?_
    with_reducible refine xc_region ?_
    refine xo_ia T_ rfl rfl rfl rfl rfl ⟨by omega, by omega⟩ rfl ?_
    refine xo_loadR0 T_ rfl rfl rfl (by first | assumption | exact RO.fld (by assumption) rfl) rfl ?_
    refine xo_asg rfl rfl rfl ?_
    with_reducible refine xo_nil ?_
    with_reducible repeat (first | refine xq_then ?_ | refine xq_blockN ?_ | refine xq_scopeN ?_)
    with_reducible repeat refine xc_seq ?_
    with_reducible refine xc_region ?_
    refine xo_mv rfl rfl rfl ?_
    refine xo_len T_ rfl rfl rfl rfl ?_
    refine xo_mv rfl rfl rfl ?_
    with_reducible refine xo_nil ?_
    with_reducible repeat (first | refine xq_then ?_ | refine xq_blockN ?_ | refine xq_scopeN ?_)
    with_reducible repeat refine xc_seq ?_
    with_reducible refine xc_block ?_
    refine xc_loop (γ := Nat) (fun i => i ≤ way.length ∧ allIn bs way = allIn bs (way.drop i)) (fun i => [(1, .pointer (some ⟨b1, 0, none⟩)), (14, .slice (some ad) ways.length c), (15, .int .i64 (ways.length : Int)), (16, .int .i64 (j : Int)), (20, .slice A3 way.length c3), (21, .int .i64 (way.length : Int)), (22, .int .i64 (i : Int))])
      (fun _ => [(b1, true, cel [.int .i64 id, .int .u8 kd, .slice (some ad) ways.length c, .map (some M)] 77), (M, false, hmap (setV bs))]) (fun i => way.length - i) 0 ⟨Nat.zero_le _, rfl⟩ ⟨rfl, rfl, rfl, rfl, rfl, rfl, rfl, trivial⟩ (by repeat (first | exact List.Sublist.refl _ | apply List.Sublist.cons_cons | apply List.Sublist.cons | exact List.nil_sublist _)) ?_
    rintro i ⟨hi, hall⟩
    with_reducible repeat refine xc_seq ?_
    with_reducible refine xc_region ?_
    refine xo_lss rfl rfl rfl rfl ?_
    with_reducible refine xo_nil ?_
    with_reducible repeat (first | refine xq_then ?_ | refine xq_blockN ?_ | refine xq_scopeN ?_)
    with_reducible repeat refine xc_seq ?_
    refine xc_cond rfl (fun hi2 => ?_) (fun hi2 => ?_)
    · have hil : i < way.length := by have := of_decide_eq_true hi2; omega
      obtain ⟨ad3, rfl, r3⟩ := int_at hw3 i hil
      rw [drop_at way 0 i hil, allIn_cons] at hall
      generalize way.getD i 0 = y at *
      with_reducible refine xc_skip ?_
      with_reducible repeat (first | refine xq_then ?_ | refine xq_blockN ?_ | refine xq_scopeN ?_)
      with_reducible repeat refine xc_seq ?_
      with_reducible refine xc_block ?_
      with_reducible repeat refine xc_seq ?_
      with_reducible refine xc_region ?_
      refine xo_ia T_ rfl rfl rfl rfl rfl ⟨by omega, by omega⟩ rfl ?_
      refine xo_loadR0 T_ rfl rfl rfl (by first | assumption | exact RO.fld (by assumption) rfl) rfl ?_
      refine xo_asg rfl rfl rfl ?_
      with_reducible refine xo_nil ?_
      with_reducible repeat (first | refine xq_then ?_ | refine xq_blockN ?_ | refine xq_scopeN ?_)
      with_reducible repeat refine xc_seq ?_
      with_reducible refine xc_region ?_
      refine xo_fa T_ rfl rfl rfl rfl rfl ?_
      refine xo_load0 T_ rfl rfl rfl (by repeat (first | exact List.Mem.head _ | apply List.Mem.tail | apply List.mem_append_right)) rfl rfl ?_
      refine xo_mv rfl rfl rfl ?_
      refine xo_sget T_ rfl rfl rfl rfl rfl rfl (by repeat (first | exact List.Mem.head _ | apply List.Mem.tail | apply List.mem_append_right)) rfl ?_
      refine xo_notOp rfl rfl rfl ?_
      with_reducible refine xo_nil ?_
      with_reducible repeat (first | refine xq_then ?_ | refine xq_blockN ?_ | refine xq_scopeN ?_)
      with_reducible repeat refine xc_seq ?_
      refine xc_cond rfl (fun h5 => ?_) (fun h5 => ?_)
      · with_reducible refine xc_exit ?_
        with_reducible repeat (first | refine xq_blockX ?_ | refine xq_thenE ?_ | refine xq_blockE rfl ?_ | refine xq_scopeE ?_)
        with_reducible repeat (first | refine xq_then ?_ | refine xq_blockN ?_ | refine xq_scopeN ?_)
        with_reducible repeat refine xc_seq ?_
        with_reducible refine xc_region ?_
        refine xo_add rfl rfl rfl (by omega) rfl ?_
        refine xo_mv rfl rfl rfl ?_
        with_reducible refine xo_nil ?_
        with_reducible repeat (first | refine xq_then ?_ | refine xq_blockN ?_ | refine xq_scopeN ?_)
        simp only [Bool.not_eq_true'] at h5
        refine xq_again _ _ _ _ _ (j + 1) ⟨hjl, ?_⟩ (by first | omega | (simp only; omega)) ⟨rfl, rfl, rfl, rfl, trivial⟩ (by repeat (first | exact List.Sublist.refl _ | apply List.Sublist.cons_cons | apply List.Sublist.cons | exact List.nil_sublist _))
        rw [hany, hall, h5, Bool.false_and, Bool.false_or]
      · with_reducible refine xc_skip ?_
        with_reducible repeat (first | refine xq_then ?_ | refine xq_blockN ?_ | refine xq_scopeN ?_)
        with_reducible repeat refine xc_seq ?_
        with_reducible refine xc_region ?_
        refine xo_add rfl rfl rfl (by omega) rfl ?_
        refine xo_mv rfl rfl rfl ?_
        with_reducible refine xo_nil ?_
        with_reducible repeat (first | refine xq_then ?_ | refine xq_blockN ?_ | refine xq_scopeN ?_)
        simp only [Bool.not_eq_false'] at h5
        refine xq_again _ _ _ _ _ (i + 1) ⟨hil, ?_⟩ (by first | omega | (simp only; omega)) ⟨rfl, rfl, rfl, rfl, rfl, rfl, rfl, trivial⟩ (by repeat (first | exact List.Sublist.refl _ | apply List.Sublist.cons_cons | apply List.Sublist.cons | exact List.nil_sublist _))
        rw [hall, h5, Bool.true_and]
    · have hige : ¬ i < way.length := by have := of_decide_eq_false hi2; omega
      rw [List.drop_of_length_le (by omega)] at hall
      with_reducible refine xc_exit ?_
      with_reducible repeat (first | refine xq_blockX ?_ | refine xq_thenE ?_ | refine xq_blockE rfl ?_ | refine xq_scopeE ?_)
      with_reducible repeat (first | refine xq_then ?_ | refine xq_blockN ?_ | refine xq_scopeN ?_)
      with_reducible repeat refine xc_seq ?_
      with_reducible refine xc_region ?_
      refine xo_asg rfl rfl rfl ?_
      with_reducible refine xo_nil ?_
      with_reducible repeat (first | refine xq_then ?_ | refine xq_blockN ?_ | refine xq_scopeN ?_)
      with_reducible repeat refine xc_seq ?_
      with_reducible refine xc_ret ?_
      with_reducible repeat (first | refine xq_thenR ?_ | refine xq_blockR ?_ | refine xq_scopeR ?_)
      refine xq_ret1 rfl rfl fun w' hw => ⟨?_, hw.kx.below⟩
      rw [standsF, hd, hany, hall]
      rfl
  · have hjge : ¬ j < ways.length := by have := of_decide_eq_false hj2; omega
    rw [List.drop_of_length_le (by omega)] at hany
    with_reducible refine xc_exit ?_
    with_reducible repeat (first | refine xq_blockX ?_ | refine xq_thenE ?_ | refine xq_blockE rfl ?_ | refine xq_scopeE ?_)
    with_reducible repeat (first | refine xq_then ?_ | refine xq_blockN ?_ | refine xq_scopeN ?_)
    with_reducible repeat refine xc_seq ?_
    with_reducible refine xc_region ?_
    refine xo_asg rfl rfl rfl ?_
    with_reducible refine xo_nil ?_
    with_reducible repeat (first | refine xq_then ?_ | refine xq_blockN ?_ | refine xq_scopeN ?_)
    with_reducible repeat refine xc_seq ?_
    with_reducible refine xc_ret ?_
    with_reducible repeat (first | refine xq_thenR ?_ | refine xq_blockR ?_ | refine xq_scopeR ?_)
    refine xq_ret1 rfl rfl fun w' hw => ⟨?_, hw.kx.below⟩
    rw [standsF, hd, hany]
    rfl
theorem stands_enters : ∀ args w, (callFunc 48 args).run Try.prog w = .ok (.enter 48 args) w := enters_of Try.func48 (by kernel_rfl) rfl
end Go.Proofs.Ytcmepdamemnbkaa
namespace Go.Proofs.Ytcmepdamemnbkaa
open Go.RowKit
set_option linter.unusedVariables false
set_option linter.unusedSimpArgs false
theorem wide_eq : wideR none = Fence.wide := rfl
/-- blocks as told, each another one -/
structure BOK (η : Hp) (w : World) : Prop where
  bl : ∀ e ∈ η, ∃ o, w.heap[e.1]? = some o ∧ e.2.2 o
  nd : (η.map (·.1)).Nodup
theorem WOK.bok {w0 : World} {X : Nat → Prop} {η η' : Hp} {w : World} (h : WOK w0 X η w) (hs : List.Sublist η' η) : BOK η' w := ⟨(h.sub hs).bl, (h.sub hs).nd⟩
/-- the blocks that may be written -/
def XW (η : Hp) : Nat → Prop := fun k => ∃ e ∈ η, e.2.1 = true ∧ e.1 = k
theorem BOK.wok {η : Hp} {w : World} (h : BOK η w) : WOK w (XW η) η w := ⟨Kx.refl _ w, h.bl, h.nd, fun e he hw => .inr ⟨e, he, hw, rfl⟩⟩
theorem WOK.wok {w0 : World} {X : Nat → Prop} {η : Hp} {w : World} (h : WOK w0 X η w) : WOK w (XW η) η w := (h.bok (List.Sublist.refl _)).wok
/-- back on the elder base -/
theorem WOK.back {w0 w1 : World} {X : Nat → Prop} {η η' : Hp} {w : World} (h0 : WOK w0 X η w1) (h : WOK w1 (XW η) η' w) : WOK w0 X η' w := by
  have hx : ∀ k, XW η k → w0.heap.size ≤ k ∨ X k := fun k ⟨e, he, hw, hk⟩ => hk ▸ h0.ow e he hw
  refine ⟨⟨h.kx.os.trans h0.kx.os, h.kx.tape.trans h0.kx.tape, h.kx.output.trans h0.kx.output, Nat.le_trans h0.kx.size h.kx.size, fun k hk hnx => ?_⟩, h.bl, h.nd, fun e he hw => ?_⟩
  · refine (h.kx.block k (Nat.lt_of_lt_of_le hk h0.kx.size) (fun q => ?_)).trans (h0.kx.block k hk hnx)
    rcases hx k q with h3 | h3
    · exact absurd hk (Nat.not_lt.2 h3)
    · exact hnx h3
  · rcases h.ow e he hw with h3 | h3
    · exact .inl (Nat.le_trans h0.kx.size h3)
    · exact hx _ h3
/-- below the end of wB all is as it was there -/
def SameB (wB w : World) : Prop := ∀ k, k < wB.heap.size → w.heap[k]? = wB.heap[k]?
theorem SameB.of_below {wB w : World} (h : Below wB.heap.size wB w) : SameB wB w := h.block
theorem SameB.kx {wB w w1 : World} {X : Nat → Prop} (h : SameB wB w) (hs : wB.heap.size ≤ w.heap.size) (k : Kx X w w1) (hX : ∀ b, X b → wB.heap.size ≤ b) : SameB wB w1 := fun i hi => (k.block i (Nat.lt_of_lt_of_le hi hs) (fun q => absurd hi (Nat.not_lt.2 (hX i q)))).trans (h i hi)
theorem SameB.cell {wB w : World} (h : SameB wB w) {p : Addr} {v : Value} (hc : wB.cell? p = some v) : w.cell? p = some v := by
  have hb := World.block_lt_of_cell? wB p hc
  unfold World.cell? at hc ⊢
  rw [h _ hb]
  exact hc
theorem RO.same {wB w : World} {X : Nat → Prop} {p : Addr} {cs : List Value} (h : RO wB XNone p cs) (hs : SameB wB w) (hX : ∀ b, X b → wB.heap.size ≤ b) : RO w X p cs := fun j v hj => by
  have h1 := (h j v hj).1
  exact ⟨hs.cell h1, fun q => absurd (World.block_lt_of_cell? wB _ h1) (Nat.not_lt.2 (hX _ q))⟩
/-- what a round keeps for the iterator -/
def KpK (K : Nat → Prop) (n0 : Nat) (W W' : World) : Prop := (∀ k, K k → W'.heap[k]? = W.heap[k]?) ∧ W.heap.size ≤ W'.heap.size ∧ (∀ k o, n0 ≤ k → W.heap[k]? = some o → o.isWalk = true → W'.heap[k]? = some o)
theorem KpK.refl (K : Nat → Prop) (n0 : Nat) (W : World) : KpK K n0 W W := ⟨fun _ _ => rfl, Nat.le_refl _, fun _ _ _ h _ => h⟩
theorem KpK.trans {K : Nat → Prop} {n0 : Nat} {A B C : World} (h : KpK K n0 A B) (k : KpK K n0 B C) : KpK K n0 A C := ⟨fun i hi => (k.1 i hi).trans (h.1 i hi), Nat.le_trans h.2.1 k.2.1, fun i o hi ho hw => k.2.2 i o hi (h.2.2 i o hi ho hw) hw⟩
section
variable {P : Program} {ro : Option Nat} {n N : Nat} {ds : List Deferred} {w0 : World} {X : Nat → Prop} {Q : Exit → Act → World → Prop} {ops : List Oper} {σ : Slots} {η : Hp} {rest : List Oper}
variable {d : Option Tmp} {ty : TypeId} {pos : String} {aft : Array Edge} {g : Option (Nat × Bool)}
/-- a yield: the world behind it is a new base -/
theorem xo_yield {l : Nat} {fo : Operand} {xs : List Operand} {ats : Array TypeId} {vs : List Value} (hg : gS ops σ g = some true) (hf : ev σ fo = some (.func (.yield l) #[] #[])) (ha_ : evs σ xs = some vs) (hN : dstOK N d = true)
    (hy : ∀ w, WOK w0 X η w → YieldAt (wideR ro) (n - 1) P l vs.toArray w fun e W' => ∃ v η' w1 X1, e = .returned v ∧ WOK w1 X1 η' W' ∧ XO P ro n N ds w1 X1 Q ops (putS d v σ) η' rest) :
    XO P ro n N ds w0 X Q ops σ η (⟨d, .call { callee := .value fo, args := xs.toArray, argTypes := ats }, ty, pos, aft, g⟩ :: rest) := by
  intro a w ha hw
  unfold wpListIn
  rw [if_pos (wanted_of ha (o := ⟨d, .call { callee := .value fo, args := xs.toArray, argTypes := ats }, ty, pos, aft, g⟩) hg)]
  refine ⟨fun _ _ => trivial, ?_⟩
  rw [show (wideR ro).round = ro from rfl, Oper.semAt_eq ro _ _ (fun c e => by cases e)]
  obtain ⟨fn, tmps, assign, body, hr, hR⟩ := hy w hw
  have hrun : (execOp a.eval ⟨d, .call { callee := .value fo, args := xs.toArray, argTypes := ats }, ty, pos, aft, g⟩).run P w = .ok (.round l fn tmps assign body) w := by
    simp [execOp, resolve, Deferred.ofValue, invoke, ha.ev hf, ha.evs ha_, hr]
  rw [hrun]
  refine ⟨(fun h => by cases h), hR.mono ?_⟩
  rintro e w' ⟨v, η', w1, X1, rfl, hw', hk⟩
  exact hk _ _ (ha.put hN v) hw'
/-- a loop whose relation speaks of the world; each round has its own base -/
theorem xc_loopJ {γ : Type} {c : Code} (C : γ → Prop) (S : γ → Slots) (H : γ → Hp) (J : γ → World → Prop) (μ : γ → Nat) (g0 : γ) (hC : C g0) (hs : subS (S g0) σ) (h0 : ∀ w, WOK w0 X η w → BOK (H g0) w ∧ J g0 w)
    (round : ∀ g, C g → ∀ w, BOK (H g) w → J g w → XC P ro n N ds w (XW (H g)) (Exit.then (fun a w => ∃ k, k < μ g ∧ ∃ g', C g' ∧ μ g' = k ∧ SOK N ds (S g') a ∧ BOK (H g') w ∧ J g' w) Q) (S g) (H g) c) : XC P ro n N ds w0 X Q σ η (.loop c) := by
  intro a w ha hw
  obtain ⟨hb, hj⟩ := h0 w hw
  refine wpIn_loop_ghost (fun k a w => ∃ g', C g' ∧ μ g' = k ∧ SOK N ds (S g') a ∧ BOK (H g') w ∧ J g' w) (μ g0) ⟨g0, hC, rfl, ha.sub hs, hb, hj⟩ ?_
  rintro k a w ⟨g, hg, rfl, h1, h2, h3⟩
  exact round g hg w h2 h3 a w h1 h2.wok
theorem xq_againJ {γ : Type} (C : γ → Prop) (S : γ → Slots) (H : γ → Hp) (J : γ → World → Prop) (μ : γ → Nat) (m : Nat) (g' : γ) (hC : C g') (hm : μ g' < m) (hs : subS (S g') σ) (h : ∀ w, WOK w0 X η w → BOK (H g') w ∧ J g' w) :
    XQ N ds w0 X (Exit.then (fun a w => ∃ k, k < m ∧ ∃ g', C g' ∧ μ g' = k ∧ SOK N ds (S g') a ∧ BOK (H g') w ∧ J g' w) Q) .normal σ η :=
  fun a w ha hw => ⟨_, hm, g', hC, rfl, ha.sub hs, (h w hw).1, (h w hw).2⟩
end
/-- an iterator over whole numbers: what it yields, from whatever world that is as wB is at the blocks that it needs -/
def Iter (P : Program) (g : Nat) (cs : List Value) (wB : World) (need : Nat → Prop) (xs : List Int) : Prop :=
  ∀ (w : World), wB.heap.size ≤ w.heap.size → (∀ k, need k → w.heap[k]? = wB.heap[k]?) → ∀ (K : Nat → Prop), (∀ k, need k → K k) → ∀ m : Nat,
    SeqStopsK Fence.wide m P g cs.toArray (fun x : Int => #[.int .i64 x]) (KpK K w.heap.size) (fun ys => ys = xs) (fun _ => True) xs.length w
theorem x_iter {P : Program} {g : Nat} {fn : Func} {c : Code} {cs : List Value} {m : Nat} {W : World} {R : Ending → World → Prop} {X : Nat → Prop} {η : Hp} {l : Nat} (hf : P.funcs[g]? = some fn) (hb : fn.body = some c) {N : Nat} (hn : fn.ntmps = N) (hl : Nat.ble (cs.length + 1) N = true) (hw : WOK W X η W)
    (h : XC P none m N [] W X (bodyPost P fn R) (argS 0 (.func (.yield l) #[] #[] :: cs)) η c) : CallsIn Fence.wide m P g (#[.func (.yield l) #[] #[]] ++ cs.toArray) W R := by
  subst hn
  have := callsIn_of_wp (F := Fence.wide) (n := m) (args := (.func (.yield l) #[] #[] :: cs).toArray) hf hb trivial (h _ W (SOK.args _ _ (by simpa using Nat.le_of_ble_eq_true hl)) hw) rfl
  simpa using this
/-- the mark of a range over a function -/
def mark_ (D : Nat) : Deferred := { target := .collected D, args := #[] }
def hdef : HP := fun o => o = .deferred (some [])
section
variable {P : Program} {n N : Nat} {ds : List Deferred} {w0 : World} {Q : Exit → Act → World → Prop} {σ : Slots} {η : Hp}
/-- one round of a range over an iterator -/
def RoundPost (N : Nat) (W : World) (η : Hp) (I : World → Prop) : Exit → Act → World → Prop
  | .normal, _, w => I w
  | _, _, _ => False
theorem xc_range {go : Operand} {p : Tmp} {assign body : Code} {gf : Nat} {cs : List Value} {xs : List Int} (hn : 3 ≤ n) (hg : ev σ go = some (.func (.func gf) #[] cs.toArray)) (eg : ∀ args w, (callFunc gf args).run P w = .ok (.enter gf args) w) (hp : Nat.blt p N = true)
    (K : Nat → Prop) (hKlt : ∀ w, WOK w0 XNone η w → ∀ k, K k → k < w.heap.size) (hseq : ∀ w, WOK w0 XNone η w → SeqStopsK Fence.wide (n - 1) P gf cs.toArray (fun x : Int => #[.int .i64 x]) (KpK K w.heap.size) (fun ys => ys = xs) (fun _ => True) xs.length w)
    {γ : Type} (C : List Int → γ → Prop) (H : List Int → γ → Hp) (g0 : γ) (hC0 : C [] g0) (hH0 : List.Sublist (H [] g0) η)
    (hcell : ∀ ys g, C ys g → ∀ e ∈ H ys g, (∀ o, e.2.2 o → o.isCells = true) ∨ ∃ e' ∈ η, e'.1 = e.1) (hwr : ∀ ys g, C ys g → ∀ e ∈ H ys g, e.2.1 = true → ¬ K e.1) (S1 : Int → Slots)
    (hassign : ∀ l x W, XC P (some l) (n - 1 - 1) N [] W XNone (Exit.then (fun a w => SOK N [] (S1 x) a ∧ Kx XNone W w) (fun _ _ _ => False)) ((p, .int .i64 x) :: σ) [] assign)
    (hbody : ∀ l ys x g W, C ys g → ys.length < xs.length → WOK w0 XNone (H ys g) W → XC P (some l) (n - 1 - 1) N [] W (XW (H ys g)) (RoundPost N W (H ys g) fun w => ∃ g', C (ys ++ [x]) g' ∧ WOK W (XW (H ys g)) (H (ys ++ [x]) g') w) (S1 x) (H ys g) body)
    (hdone : ∀ D g, C xs g → XQ N (mark_ D :: ds) w0 XNone Q .normal σ ((D, true, hdef) :: H xs g)) : XC P none n N ds w0 XNone Q σ η (.rangeFunc go #[p] assign body) := by
  intro a w ha hw
  have hlt : ∀ e ∈ η, e.1 < w.heap.size := fun e he => hw.lt he
  have hsz := hw.kx.size
  -- the relation abides what the loop's own records do
  have hI : OwnFrom w.heap.size (fun (ys : List Int) W => w.heap.size ≤ W.heap.size ∧ ∃ g, C ys g ∧ WOK w0 XNone (H ys g) W) := by
    rintro ys A B row ⟨hszA, g, hg', hA⟩ hgr hrow
    have hne : ∀ e ∈ H ys g, some e.1 ≠ row := fun e he q => by
      obtain ⟨h1, o, h2, h3⟩ := hrow e.1 q.symm
      obtain ⟨o', h4, h5⟩ := hA.bl e he
      rw [h4] at h2
      cases h2
      rcases hcell ys g hg' e he with h6 | ⟨e', h6, h7⟩
      · rw [h6 _ h5] at h3; cases h3
      · have := hlt e' h6; omega
    refine ⟨Nat.le_trans hszA hgr.size, g, hg', ⟨hgr.os.trans hA.kx.os, hgr.tape.trans hA.kx.tape, hgr.output.trans hA.kx.output, Nat.le_trans hA.kx.size hgr.size, fun k hk hx => (hgr.block k (Nat.lt_of_lt_of_le hk hA.kx.size) (fun q => ?_)).trans (hA.kx.block k hk hx)⟩, ?_, hA.nd, hA.ow⟩
    · obtain ⟨h1, _⟩ := hrow k q.symm
      omega
    · intro e he
      obtain ⟨o, h1, h2⟩ := hA.bl e he
      exact ⟨o, (hgr.block _ (hA.lt he) (hne e he)).trans h1, h2⟩
  refine wpIn_rangeFunc_ownH (F := wideR none) (w := w) (w0 := w) rfl (by omega) (gf := gf) (lb := cs.toArray) (ha.ev hg) trivial eg (hseq w hw) (fun h k => h.trans k) ?_ (Below.refl _ _) (fun _ => rfl)
    (fun ys W => w.heap.size ≤ W.heap.size ∧ ∃ g, C ys g ∧ WOK w0 XNone (H ys g) W) (fun _ _ _ => False) hI (fun _ _ _ _ _ h _ _ => h) ⟨Nat.le_refl _, g0, hC0, hw.sub hH0⟩
    (fun x a' W => SOK N [] (S1 x) a') (fun x a' _ _ _ _ h _ _ => h) ?_ ?_ ?_ ?_
  · intro W l o o' hl ho hnc hnw
    refine ⟨fun k hk => World.putObj_heap_other (fun e => ?_), by simp, fun k o1 hk h1 h2 => (World.putObj_heap_other (fun e => ?_)).trans h1⟩
    · have := hKlt w hw k hk; omega
    · subst e
      rw [ho] at h1
      cases h1
      rw [hnw] at h2
      cases h2
  · rintro l pre x W K' ⟨hszW, g, hg', hA⟩ hk
    have hs : SOK N [] ((p, .int .i64 x) :: σ) { tmps := ((#[p] : Array Tmp).zip #[Value.int .i64 x]).foldl (fun t (q : Tmp × Value) => t.setIfInBounds q.1 q.2) a.tmps, defers := [] } := by
      have h1 := ha.put (d := some p) (by simpa [dstOK] using hp) (.int .i64 x)
      exact ⟨by simpa [Act.put] using h1.sz, fun i v hv => by simpa [Act.put] using h1.sl i v hv, rfl⟩
    refine wpIn_mono (hassign l x W _ W hs (WOK.start XNone W)) ?_
    intro e a' w' hq
    cases e with
    | normal =>
      obtain ⟨h1, h2⟩ := hq
      have hb := h2.below
      exact hk a' w' ⟨hb.size, fun k o _ ho _ => (hb.block k (Array.getElem?_eq_some_iff.1 ho).1).trans ho⟩ ⟨fun k hK => hb.block k (Nat.lt_of_lt_of_le (hKlt w hw k hK) hszW), hb.size, fun k o _ ho _ => (hb.block k (Array.getElem?_eq_some_iff.1 ho).1).trans ho⟩ ⟨Nat.le_trans hszW hb.size, g, hg', hA.below hb⟩ h1
    | exit id => exact hq
    | goto l => exact hq
    | ret => exact hq
    | panic c => exact hq
    | outgrown => exact hq
  · rintro l pre x a' W hl _ ⟨hszW, g, hg', hA⟩ hax hlen
    have hxw : ∀ k o, w.heap.size ≤ k → W.heap[k]? = some o → o.isCells = false → ¬ XW (H pre g) k := by
      rintro k o hk ho hnc ⟨e, he, hwr', rfl⟩
      obtain ⟨o', h4, h5⟩ := hA.bl e he
      rw [ho] at h4
      cases h4
      rcases hcell pre g hg' e he with h6 | ⟨e', h6, h7⟩
      · rw [h6 _ h5] at hnc; cases hnc
      · have := hlt e' h6; omega
    refine wpIn_mono (hbody l pre x g W hg' hlen hA a' W hax hA.wok) ?_
    intro e a1 w' hq
    cases e with
    | normal =>
      obtain ⟨g', hg2, h2⟩ := hq
      refine ⟨⟨h2.kx.size, fun k o hk ho hnc => (h2.kx.block k (Array.getElem?_eq_some_iff.1 ho).1 (hxw k o hk ho hnc)).trans ho⟩, ⟨fun k hK => h2.kx.block k (Nat.lt_of_lt_of_le (hKlt w hw k hK) hszW) ?_, h2.kx.size, fun k o hk ho hwk => (h2.kx.block k (Array.getElem?_eq_some_iff.1 ho).1 (hxw k o hk ho ?_)).trans ho⟩, Nat.le_trans hszW h2.kx.size, g', hg2, hA.back h2⟩
      · rintro ⟨e, he, hw1, rfl⟩
        exact hwr pre g hg' e he hw1 hK
      · cases o <;> first | rfl | cases hwk
    | exit id => exact hq.elim
    | goto l => exact hq.elim
    | ret => exact hq.elim
    | panic c => exact hq.elim
    | outgrown => exact hq.elim
  · rintro D ys W hD rfl ⟨hszW, g, hg', hA⟩ hdf
    refine hdone D g hg' _ W ⟨ha.sz, ha.sl, by rw [ha.df]; rfl⟩ ⟨hA.kx, ?_, ?_, ?_⟩
    · intro e he
      rcases List.mem_cons.1 he with rfl | he
      · exact ⟨_, hdf, rfl⟩
      · exact hA.bl e he
    · simp only [List.map_cons, List.nodup_cons]
      refine ⟨fun hm => ?_, hA.nd⟩
      obtain ⟨e, he, q⟩ := List.mem_map.1 hm
      obtain ⟨o', h4, h5⟩ := hA.bl e he
      rw [q, hdf] at h4
      cases h4
      rcases hcell ys g hg' e he with h6 | ⟨e', h6, h7⟩
      · have := h6 _ h5; cases this
      · have := hlt e' h6; omega
    · intro e he hw1
      rcases List.mem_cons.1 he with rfl | he
      · exact .inl (Nat.le_trans hsz hD)
      · exact hA.ow e he hw1
  · intro D c pre W hD _ h _; exact h.elim
end
/-! ### a function with such a loop -/
theorem x_callsM {P : Program} {f : FuncId} {fn : Func} {c : Code} {vs : List Value} {w : World} {R : Ending → World → Prop} {η : Hp} (n : Nat) (hf : P.funcs[f]? = some fn) (hb : fn.body = some c) {N : Nat} (hn : fn.ntmps = N) (hl : Nat.ble vs.length N = true) (hw : WOK w XNone η w)
    (h : XC P none n N [] w XNone (bodyPostM Fence.wide n P fn R) (argS 0 vs) η c) : Calls P f vs.toArray w R := by
  subst hn
  exact (callsIn_wide (n := n)).1 (callsIn_of_wp_marks hf hb trivial (h _ w (SOK.args vs _ (Nat.le_of_ble_eq_true hl)) hw) rfl)
theorem below_takeD {w0 w : World} {D : Nat} {o : Obj} (h : Below w0.heap.size w0 w) (hD : w0.heap.size ≤ D) : Below w0.heap.size w0 (w.putObj D o) :=
  ⟨h.os, h.tape, h.output, by simp; exact h.size, fun k hk => (World.putObj_heap_other (by omega)).trans (h.block k hk)⟩
section
variable {P : Program} {n N : Nat} {w0 : World} {fn : Func} {R : Ending → World → Prop} {σ : Slots} {η : Hp}
/-- out of it, behind the loop: the mark is taken -/
theorem xq_retM1 {t : Tmp} {v : Value} {D : Nat} (hf : fn.results = #[.tmp t]) (hv : slot t σ = some v) (h : ∀ w, WOK w0 XNone η w → R (.returned v) w) : XQ N [mark_ D] w0 XNone (bodyPostM Fence.wide n P fn R) .ret σ ((D, true, hdef) :: η) := by
  intro a w ha hw
  obtain ⟨o, hD, ho⟩ := hw.bl (D, true, hdef) (List.mem_cons_self ..)
  rw [show o = _ from ho] at hD
  show LeavesInM _ _ _ _ _ _ a.defers _ w
  rw [ha.df]
  refine ⟨by simp, .inl ⟨D, _, rfl, run_takeDeferred hD, ?_⟩⟩
  have hw' : WOK w0 XNone η (w.putObj D (.deferred none)) := by
    have h1 : D ∉ η.map (·.1) := by have := hw.nd; simp only [List.map_cons, List.nodup_cons] at this; exact this.1
    have h2 := hw.sub (List.sublist_cons_self _ _)
    have h3 : w0.heap.size ≤ D := by
      rcases hw.ow (D, true, hdef) (List.mem_cons_self ..) rfl with h4 | h4
      · exact h4
      · exact h4.elim
    refine ⟨Kx.of_below (below_takeD h2.kx.below h3), ?_, h2.nd, h2.ow⟩
    intro e he
    obtain ⟨o, h4, h5⟩ := h2.bl e he
    exact ⟨o, (World.putObj_heap_other (fun q => h1 (List.mem_map.2 ⟨e, he, q⟩))).trans h4, h5⟩
  exact ⟨v, by rw [results_tmp hf, getD_of (ha.sl _ _ hv)], h _ hw'⟩
/-- a way out ahead of the loop -/
theorem xq_retM0 {t : Tmp} {v : Value} (hf : fn.results = #[.tmp t]) (hv : slot t σ = some v) (h : ∀ w, WOK w0 XNone η w → R (.returned v) w) : XQ N [] w0 XNone (bodyPostM Fence.wide n P fn R) .ret σ η := by
  intro a w ha hw
  show LeavesInM _ _ _ _ _ _ a.defers _ w
  rw [ha.df]
  exact ⟨v, by rw [results_tmp hf, getD_of (ha.sl _ _ hv)], h _ hw⟩
end
end Go.Proofs.Ytcmepdamemnbkaa
namespace Go.Proofs.Ytcmepdamemnbkaa
open Go.RowKit
section
variable {P : Program} {ro : Option Nat} {n N : Nat} {ds : List Deferred} {w0 : World} {X : Nat → Prop} {Q : Exit → Act → World → Prop} {σ : Slots} {η : Hp} {c : Code}
/-- what the world tells here -/
theorem xc_know {φ : Prop} (h : ∀ w, WOK w0 X η w → φ) (k : φ → XC P ro n N ds w0 X Q σ η c) : XC P ro n N ds w0 X Q σ η c := fun a w ha hw => k (h w hw) a w ha hw
theorem WOK.own {w : World} (h : WOK w0 XNone η w) {b : Nat} {φ : HP} (he : (b, true, φ) ∈ η) : w0.heap.size ≤ b := by
  rcases h.ow _ he rfl with h1 | h1
  · exact h1
  · exact h1.elim
end
theorem Kx.grown {X : Nat → Prop} {w0 w : World} {row : Option Nat} (h : Kx X w0 w) (hr : ∀ k, X k → row = some k) : w0.grownBy w row := ⟨h.os, h.tape, h.output, h.size, fun k hk hne => h.block k hk (fun q => hne (hr k q).symm)⟩
/-- a row of whole numbers that a call has made -/
def RowAt (e : TypeId) (base : Nat) (w : World) (r : RowR) (xs : List Int) : Prop := (r = none → xs = []) ∧ ∀ p, r = some p → base ≤ p.1 ∧ ∃ o, w.heap[p.1]? = some o ∧ orow e 1 xs.length p.2 (xs.map (.int .i64)) o
end Go.Proofs.Ytcmepdamemnbkaa
namespace Go.Proofs.Ytcmepdamemnbkaa
open Go.RowKit
theorem WOK.row {w0 : World} {X : Nat → Prop} {η : Hp} {w w' : World} (h : WOK w0 X η w) (hb : Below w.heap.size w w') {e : TypeId} {r : RowR} {xs : List Int} (hr : RowAt e w.heap.size w' r xs) : WOK w0 X (hpR e 1 r xs.length (xs.map (.int .i64)) ++ η) w' := by
  cases r with
  | none => exact h.below hb
  | some p =>
    obtain ⟨h1, o, h2, h3⟩ := hr.2 p rfl
    exact h.more hb h1 h2 h3
theorem RowAt.of {w0 : World} {η : Hp} {w : World} {e : TypeId} {r : RowR} {xs : List Int} (h : WOK w0 XNone (hpR e 1 r xs.length (xs.map (.int .i64)) ++ η) w) (h0 : r = none → xs = []) : RowAt e w0.heap.size w r xs := by
  refine ⟨h0, fun p hp => ?_⟩
  subst hp
  exact ⟨h.own (List.Mem.head _), h.bl (p.1, true, orow e 1 xs.length p.2 (xs.map (.int .i64))) (List.Mem.head _)⟩
theorem RowAt.below {e : TypeId} {base : Nat} {w w' : World} {r : RowR} {xs : List Int} (h : RowAt e base w r xs) (hb : Below w.heap.size w w') : RowAt e base w' r xs := by
  refine ⟨h.1, fun p hp => ?_⟩
  obtain ⟨h1, o, h2, h3⟩ := h.2 p hp
  exact ⟨h1, o, (hb.block _ (Array.getElem?_eq_some_iff.1 h2).1).trans h2, h3⟩
theorem RowAt.mono {e : TypeId} {base base' : Nat} {w : World} {r : RowR} {xs : List Int} (h : RowAt e base w r xs) (hb : base' ≤ base) : RowAt e base' w r xs := ⟨h.1, fun p hp => ⟨Nat.le_trans hb (h.2 p hp).1, (h.2 p hp).2⟩⟩
end Go.Proofs.Ytcmepdamemnbkaa
namespace Go.Proofs.Ytcmepdamemnbkaa
open Go.RowKit
/-- a call that wrote into one block of the call's own, and made others -/
theorem WOK.updK {w0 : World} {X : Nat → Prop} {η η' : Hp} {w w' : World} {b : Nat} {φ' : HP} (h : WOK w0 X η w) (hU : Upd b φ' η η') (k : Kx (fun q => q = b) w w') {o : Obj} (ho : w'.heap[b]? = some o) (hφ : φ' o) : WOK w0 X η' w' := by
  obtain ⟨φ, hb⟩ := hU.has
  have hown := h.ow _ hb rfl
  refine ⟨⟨k.os.trans h.kx.os, k.tape.trans h.kx.tape, k.output.trans h.kx.output, Nat.le_trans h.kx.size k.size, fun i hi hx => ?_⟩, ?_, by rw [hU.keys]; exact h.nd, ?_⟩
  · refine (k.block i (Nat.lt_of_lt_of_le hi h.kx.size) (fun e => ?_)).trans (h.kx.block i hi hx)
    subst e
    rcases hown with h2 | h2
    · exact absurd hi (Nat.not_lt.2 h2)
    · exact hx h2
  · intro e he
    rcases hU.memNe h.nd e he with rfl | ⟨he, hne⟩
    · exact ⟨o, ho, hφ⟩
    · obtain ⟨o', h2, h3⟩ := h.bl e he
      exact ⟨o', (k.block _ (h.lt he) hne).trans h2, h3⟩
  · intro e he hw
    rcases hU.mem e he with rfl | he
    · exact hown
    · exact h.ow e he hw
end Go.Proofs.Ytcmepdamemnbkaa
namespace Go.Proofs.Ytcmepdamemnbkaa
open Go.RowKit
theorem WOK.more2 {w0 : World} {X : Nat → Prop} {η : Hp} {w w' : World} (h : WOK w0 X η w) (hb : Below w.heap.size w w') {b c : Nat} {o o2 : Obj} {φ φ2 : HP} (hbb : w.heap.size ≤ b) (hcc : w.heap.size ≤ c) (hne : b ≠ c) (ho : w'.heap[b]? = some o) (ho2 : w'.heap[c]? = some o2) (hφ : φ o) (hφ2 : φ2 o2) : WOK w0 X ((c, true, φ2) :: (b, true, φ) :: η) w' := by
  have h1 := h.more hb hbb ho hφ
  refine ⟨h1.kx, ?_, ?_, ?_⟩
  · intro e he
    rcases List.mem_cons.1 he with rfl | he
    · exact ⟨o2, ho2, hφ2⟩
    · exact h1.bl e he
  · simp only [List.map_cons, List.nodup_cons, List.mem_cons, not_or]
    refine ⟨⟨fun e => hne e.symm, fun hm => ?_⟩, ?_⟩
    · obtain ⟨e, he, h2⟩ := List.mem_map.1 hm
      have := h.lt he
      omega
    · have := h1.nd
      simpa only [List.map_cons, List.nodup_cons] using this
  · intro e he hw
    rcases List.mem_cons.1 he with rfl | he
    · exact .inl (Nat.le_trans h.kx.size hcc)
    · exact h1.ow e he hw
end Go.Proofs.Ytcmepdamemnbkaa
namespace Go.Proofs.Ytcmepdamemnbkaa
open Go.RowKit
set_option linter.unusedVariables false
set_option linter.unusedSimpArgs false
set_option maxHeartbeats 4000000 in
theorem appendSeq_calls (g : Nat) (cs : List Value) (eg : ∀ args w, (callFunc g args).run Try.prog w = .ok (.enter g args) w) (need : Nat → Prop) (xs : List Int) (w : World) (hit : Iter Try.prog g cs w need xs) (hneed : ∀ k, need k → k < w.heap.size) (hlen : xs.length ≤ 1000000) :
    Calls Try.prog 46 #[.slice none 0 0, .func (.func g) #[] cs.toArray] w fun e w' => ∃ r : RowR, e = .returned (valR r xs.length) ∧ RowAt 3 w.heap.size w' r xs ∧ Below w.heap.size w w' := by
  refine x_callsM 3 Try.func46 rfl rfl rfl (WOK.start XNone w) ?_
  with_reducible repeat refine xc_seq ?_
  with_reducible refine xc_region ?_
  refine xo_box rfl rfl rfl rfl (fun b2 => ?_)
  refine xo_asg rfl rfl rfl ?_
  with_reducible refine xo_nil ?_
  with_reducible repeat (first | refine xq_then ?_ | refine xq_blockN ?_ | refine xq_scopeN ?_)
  with_reducible repeat refine xc_seq ?_
  with_reducible refine xc_region ?_
  refine xo_mv rfl rfl rfl ?_
  with_reducible refine xo_nil ?_
  with_reducible repeat (first | refine xq_then ?_ | refine xq_blockN ?_ | refine xq_scopeN ?_)
  with_reducible repeat refine xc_seq ?_
  with_reducible refine xc_block ?_
  refine xc_know (φ := w.heap.size ≤ b2) (fun w1 hw1 => hw1.own (by repeat (first | exact List.Mem.head _ | apply List.Mem.tail | apply List.mem_append_right))) fun hb2 => ?_
  refine xc_range (by omega) rfl eg rfl (fun k => k < w.heap.size) (fun w1 hw1 k hk => Nat.lt_of_lt_of_le hk hw1.kx.size) (fun w1 hw1 => hit w1 hw1.kx.size (fun k hk => hw1.kx.below.block k (hneed k hk)) _ hneed _)
    (γ := RowR) (fun ys r => (r = none → ys = []) ∧ ∀ p, r = some p → w.heap.size ≤ p.1) (fun ys r => hpR 3 1 r ys.length (ys.map (.int .i64)) ++ [(b2, true, cel [valR r ys.length] 26)]) none ⟨fun _ => rfl, fun p h => by cases h⟩ (List.Sublist.refl _) ?_ ?_ (fun x => [(2, .pointer (some ⟨b2, 0, none⟩)), (5, .int .i64 x)]) ?_ ?_ ?_
  · intro ys r hC e he
    left
    intro o ho
    rcases List.mem_append.1 he with he | he
    · cases r with
      | none => cases he
      | some p =>
        simp only [hpR, List.mem_singleton] at he
        subst he
        obtain ⟨cur, rfl, _⟩ := ho
        rfl
    · simp only [List.mem_singleton] at he
      subst he
      rw [show o = _ from ho]
      rfl
  · rintro ys r ⟨_, hC⟩ e he _
    rcases List.mem_append.1 he with he | he
    · cases r with
      | none => cases he
      | some p =>
        simp only [hpR, List.mem_singleton] at he
        subst he
        exact Nat.not_lt.2 (hC p rfl)
    · simp only [List.mem_singleton] at he
      subst he
      exact Nat.not_lt.2 hb2
  · intro l x W
    with_reducible repeat refine xc_seq ?_
    with_reducible refine xc_region ?_
    refine xo_asg rfl rfl rfl ?_
    with_reducible refine xo_nil ?_
    with_reducible repeat (first | refine xq_then ?_ | refine xq_blockN ?_ | refine xq_scopeN ?_)
    exact fun a w1 ha hw1 => ⟨ha.sub ⟨rfl, rfl, trivial⟩, hw1.kx⟩
  · rintro l ys x r W ⟨hC1, hC2⟩ hlt hW
    with_reducible repeat refine xc_seq ?_
    with_reducible refine xc_block ?_
    with_reducible repeat refine xc_seq ?_
    with_reducible refine xc_region ?_
    refine xo_load0 T_ rfl rfl rfl (by repeat (first | exact List.Mem.head _ | apply List.Mem.tail | apply List.mem_append_right)) rfl rfl ?_
    refine xo_mv rfl rfl rfl ?_
    refine xo_bs1 T_ rfl rfl rfl rfl rfl rfl rfl rfl (fun b10 => ?_)
    refine xo_app TR_ rfl rfl rfl rfl rfl rfl rfl rfl (by simp) rfl rfl (fun h => by rw [hC1 h]; rfl) (by omega) rfl rfl (fun r' hr' => ?_)
    rcases r' with _ | ⟨g', cap'⟩
    · exact absurd rfl hr'
    refine xo_store T_ rfl rfl rfl rfl (by repeat (first | exact List.Mem.head _ | apply List.Mem.tail | apply List.mem_append_right)) rfl rfl rfl rfl (by repeat (first | exact Upd.head | apply Upd.tail | apply Upd.app)) rfl ?_
    with_reducible refine xo_nil ?_
    with_reducible repeat (first | refine xq_then ?_ | refine xq_blockN ?_ | refine xq_scopeN ?_)
    intro a w1 ha hw1
    refine ⟨some (g', cap'), ⟨(fun h => by cases h), fun p hp => ?_⟩, ?_⟩
    · cases hp
      rcases hw1.ow (g', true, _) (by repeat (first | exact List.Mem.head _ | apply List.Mem.tail | apply List.mem_append_right)) rfl with h1 | ⟨e, he, _, rfl⟩
      · exact Nat.le_trans hW.kx.size h1
      · rcases List.mem_append.1 he with he | he
        · cases r with
          | none => cases he
          | some p =>
            simp only [hpR, List.mem_singleton] at he
            subst he
            exact hC2 p rfl
        · simp only [List.mem_singleton] at he
          subst he
          exact hb2
    · have e1 : (ys ++ [x]).length = ys.length + 1 := by simp
      have e2 : (ys ++ [x]).map (Value.int .i64) = ys.map (Value.int .i64) ++ [Value.int .i64 x] := by simp
      show WOK W _ (hpR 3 1 (some (g', cap')) (ys ++ [x]).length ((ys ++ [x]).map (.int .i64)) ++ [(b2, true, cel [valR (some (g', cap')) (ys ++ [x]).length] 26)]) w1
      rw [e1, e2]
      exact hw1
  · rintro D r ⟨hC1, hC2⟩
    with_reducible repeat (first | refine xq_then ?_ | refine xq_blockN ?_ | refine xq_scopeN ?_)
    with_reducible repeat refine xc_seq ?_
    with_reducible refine xc_region ?_
    refine xo_load0 T_ rfl rfl rfl (by repeat (first | exact List.Mem.head _ | apply List.Mem.tail | apply List.mem_append_right)) rfl rfl ?_
    refine xo_asg rfl rfl rfl ?_
    with_reducible refine xo_nil ?_
    with_reducible repeat (first | refine xq_then ?_ | refine xq_blockN ?_ | refine xq_scopeN ?_)
    with_reducible repeat refine xc_seq ?_
    with_reducible refine xc_ret ?_
    with_reducible repeat (first | refine xq_thenR ?_ | refine xq_blockR ?_ | refine xq_scopeR ?_)
    refine xq_retM1 rfl rfl fun w1 hw1 => ⟨r, rfl, ⟨hC1, fun p hp => ⟨hC2 p hp, ?_⟩⟩, hw1.kx.below⟩
    subst hp
    exact hw1.bl (p.1, true, orow 3 1 xs.length p.2 (xs.map (.int .i64))) (List.Mem.head _)
theorem collect_calls (g : Nat) (cs : List Value) (eg : ∀ args w, (callFunc g args).run Try.prog w = .ok (.enter g args) w) (need : Nat → Prop) (xs : List Int) (w : World) (hit : Iter Try.prog g cs w need xs) (hneed : ∀ k, need k → k < w.heap.size) (hlen : xs.length ≤ 1000000) :
    Calls Try.prog 21 #[.func (.func g) #[] cs.toArray] w fun e w' => ∃ r : RowR, e = .returned (valR r xs.length) ∧ RowAt 3 w.heap.size w' r xs ∧ Below w.heap.size w w' := by
  have eg2 := enters_of Try.func46 (by kernel_rfl) rfl
  refine x_calls (X := XNone) Try.func21 rfl rfl rfl ?_
  with_reducible repeat refine xc_seq ?_
  with_reducible refine xc_region ?_
  refine xo_asg rfl rfl rfl ?_
  with_reducible refine xo_nil ?_
  with_reducible repeat (first | refine xq_then ?_ | refine xq_blockN ?_ | refine xq_scopeN ?_)
  with_reducible repeat refine xc_seq ?_
  with_reducible refine xc_region ?_
  refine xo_mv rfl rfl rfl ?_
  refine xo_call (fs := []) (cs := []) rfl rfl rfl eg2 rfl (fun w1 hw1 => (appendSeq_calls g cs eg need xs w1 (fun w2 h1 h2 => hit w2 (Nat.le_trans hw1.kx.size h1) (fun k hk => (h2 k hk).trans (hw1.kx.below.block k (hneed k hk)))) (fun k hk => Nat.lt_of_lt_of_le (hneed k hk) hw1.kx.size) hlen).mono ?_)
  rintro e w2 ⟨r, rfl, hrow, hb⟩
  refine ⟨_, _, rfl, hw1.row hb hrow, ?_⟩
  refine xo_asg rfl rfl rfl ?_
  with_reducible refine xo_nil ?_
  with_reducible repeat (first | refine xq_then ?_ | refine xq_blockN ?_ | refine xq_scopeN ?_)
  with_reducible repeat refine xc_seq ?_
  with_reducible refine xc_ret ?_
  with_reducible repeat (first | refine xq_thenR ?_ | refine xq_blockR ?_ | refine xq_scopeR ?_)
  exact xq_ret1 rfl rfl fun w3 hw3 => ⟨r, rfl, RowAt.of hw3 hrow.1, hw3.kx.below⟩
theorem collect_enters : ∀ args w, (callFunc 21 args).run Try.prog w = .ok (.enter 21 args) w := enters_of Try.func21 (by kernel_rfl) rfl
end Go.Proofs.Ytcmepdamemnbkaa
namespace Go.Proofs.Ytcmepdamemnbkaa
open Go.RowKit Go.Proofs.YtcmepdamemnbkaaW.PrintWords
set_option linter.unusedVariables false
set_option linter.unusedSimpArgs false
def holdsL (gone : List Int) : List Int → List RecT → List Int
  | _, [] => []
  | bs, x :: r => if decide (x.f0 ∈ gone) || !standsF bs x.f2 then holdsL gone bs r else x.f0 :: holdsL gone (insN x.f0 bs) r
def holdsF (r : List RecT) (gone : List Int) : List Int := holdsL gone [] r
theorem holds_calls (A : Option Addr) (n c : Nat) (M0 G : Nat) (w : World) :
    Calls Try.prog 22 #[.agg #[.slice A n c, .map (some M0)], .map (some G)] w fun e w' => ∃ b2 b3, e = .returned (.func (.func 47) #[] #[.pointer (some ⟨b2, 0, none⟩), .pointer (some ⟨b3, 0, none⟩)]) ∧ w.heap.size ≤ b2 ∧ w.heap.size ≤ b3 ∧ b2 ≠ b3 ∧
      w'.heap[b2]? = some (.cells #[.slice A n c, .map (some M0)] 46 (0, 0)) ∧ w'.heap[b3]? = some (.cells #[.map (some G)] 44 (0, 0)) ∧ Below w.heap.size w w' := by
  refine x_calls (X := XNone) Try.func22 rfl rfl rfl ?_
  with_reducible repeat refine xc_seq ?_
  with_reducible refine xc_region ?_
  refine xo_box rfl rfl rfl rfl (fun b2 => ?_)
  refine xo_box rfl rfl rfl rfl (fun b3 => ?_)
  refine xo_asg rfl rfl rfl ?_
  with_reducible refine xo_nil ?_
  with_reducible repeat (first | refine xq_then ?_ | refine xq_blockN ?_ | refine xq_scopeN ?_)
  with_reducible repeat refine xc_seq ?_
  with_reducible refine xc_region ?_
  refine xo_mkf rfl rfl rfl rfl ?_
  refine xo_asg rfl rfl rfl ?_
  with_reducible refine xo_nil ?_
  with_reducible repeat (first | refine xq_then ?_ | refine xq_blockN ?_ | refine xq_scopeN ?_)
  with_reducible repeat refine xc_seq ?_
  with_reducible refine xc_ret ?_
  with_reducible repeat (first | refine xq_thenR ?_ | refine xq_blockR ?_ | refine xq_scopeR ?_)
  refine xq_ret1 rfl rfl fun w' hw => ⟨b2, b3, rfl, hw.own (by repeat (first | exact List.Mem.head _ | apply List.Mem.tail | apply List.mem_append_right)), hw.own (by repeat (first | exact List.Mem.head _ | apply List.Mem.tail | apply List.mem_append_right)), ?_, hw.obj (wr := true) (cs := [.slice A n c, .map (some M0)]) (by repeat (first | exact List.Mem.head _ | apply List.Mem.tail | apply List.mem_append_right)), hw.obj (wr := true) (cs := [.map (some G)]) (by repeat (first | exact List.Mem.head _ | apply List.Mem.tail | apply List.mem_append_right)), hw.kx.below⟩
  have := hw.nd
  simp at this
  exact fun e => this e.symm
theorem holds_enters : ∀ args w, (callFunc 22 args).run Try.prog w = .ok (.enter 22 args) w := enters_of Try.func22 (by kernel_rfl) rfl
theorem iter_enters : ∀ args w, (callFunc 47 args).run Try.prog w = .ok (.enter 47 args) w := enters_of Try.func47 (by kernel_rfl) rfl
theorem kd_same {wB w : World} (hs : SameB wB w) {d : Kd Int} (hd : d = Kd.int .i64) {x : Int} {cs : List Value} (h : d.K wB x cs) : d.K w x cs := by subst hd; exact h
theorem C_same {wB w : World} (hs : SameB wB w) {α : Type} {d : Kd α} (hd : ∀ x cs, d.K wB x cs → d.K w x cs) {A : Option Addr} {n : Nat} {xs : List α} (h : Kd.C d wB A n xs) : Kd.C d w A n xs := by
  refine ⟨h.1, h.2.1, fun hn => ?_⟩
  obtain ⟨ad, e, hc⟩ := h.2.2 hn
  refine ⟨ad, e, fun j p hj => ?_⟩
  obtain ⟨cs, h1, h2, h3⟩ := hc j p hj
  exact ⟨cs, h1, hd _ _ h2, fun i u hu => hs.cell (h3 i u hu)⟩
theorem ints_same {wB w : World} (hs : SameB wB w) {A : Option Addr} {n : Nat} {xs : List Int} (h : Kd.C (Kd.int .i64) wB A n xs) : Kd.C (Kd.int .i64) w A n xs := C_same hs (fun x cs h => h) h
theorem ways_same {wB w : World} (hs : SameB wB w) {A : Option Addr} {n : Nat} {xs : List (List Int)} (h : Kd.C waysK wB A n xs) : Kd.C waysK w A n xs :=
  C_same (d := waysK) hs (fun x cs h => by obtain ⟨A, c, h1, h2, h3⟩ := h; exact ⟨A, c, h1, h2, ints_same hs h3⟩) h
/-- what the iterator needs -/
def needOf (w0 : World) (b2 b3 G : Nat) : Nat → Prop := fun k => k < w0.heap.size ∨ k = b2 ∨ k = b3 ∨ k = G
set_option maxHeartbeats 4000000 in
theorem iter_holds (A : Option Addr) (c : Nat) (r : List RecT) (gone : List Int) (M0 G b2 b3 : Nat) (w0 wB : World) (hr : Kd.C recK w0 A r.length r) (h0B : SameB w0 wB) (hsz0 : w0.heap.size ≤ wB.heap.size)
    (h2 : wB.heap[b2]? = some (.cells #[.slice A r.length c, .map (some M0)] 46 (0, 0))) (h3 : wB.heap[b3]? = some (.cells #[.map (some G)] 44 (0, 0))) (hG : IMap wB G (setV gone)) (h23 : b2 ≠ b3) :
    Iter Try.prog 47 [.pointer (some ⟨b2, 0, none⟩), .pointer (some ⟨b3, 0, none⟩)] wB (needOf w0 b2 b3 G) (holdsF r gone) := by
  have hn := hr.2.1
  intro w hszB hneed K hK m l J Jx W hW hJ hJx hY h0
  have lt2 : b2 < wB.heap.size := (Array.getElem?_eq_some_iff.1 h2).1
  have lt3 : b3 < wB.heap.size := (Array.getElem?_eq_some_iff.1 h3).1
  have ltG := hG.lt
  have hWn : ∀ k, needOf w0 b2 b3 G k → W.heap[k]? = wB.heap[k]? := fun k hk => by
    have hkl : k < wB.heap.size := by rcases hk with h | h | h | h <;> omega
    exact (hW.block k (by omega)).trans (hneed k hk)
  have g2 : W.heap[b2]? = _ := (hWn b2 (.inr (.inl rfl))).trans h2
  have g3 : W.heap[b3]? = _ := (hWn b3 (.inr (.inr (.inl rfl)))).trans h3
  have gG : IMap W G (setV gone) := hG.at_ (hWn G (.inr (.inr (.inr rfl))))
  have hS0 : SameB w0 W := fun k hk => (hWn k (.inl hk)).trans (h0B k hk)
  have hszW : w0.heap.size ≤ W.heap.size := by have := hW.size; omega
  have n2G : b2 ≠ G := fun e => by obtain ⟨es, cl, h, _⟩ := gG; rw [← e, g2] at h; cases h
  have n3G : b3 ≠ G := fun e => by obtain ⟨es, cl, h, _⟩ := gG; rw [← e, g3] at h; cases h
  have hw0 : WOK W XNone [(b2, false, cel [.slice A r.length c, .map (some M0)] 46), (b3, false, cel [.map (some G)] 44), (G, false, hmap (setV gone))] W := by
    refine ⟨Kx.refl _ W, ?_, by simp [h23, n2G, n3G], by simp⟩
    intro e he
    simp only [List.mem_cons, List.not_mem_nil, or_false] at he
    rcases he with rfl | rfl | rfl
    · exact ⟨_, g2, rfl⟩
    · exact ⟨_, g3, rfl⟩
    · exact hmap_of gG
  refine x_iter Try.func47 rfl rfl rfl hw0 ?_
  with_reducible repeat refine xc_seq ?_
  with_reducible refine xc_region ?_
  refine xo_mkm rfl rfl (fun b8 => ?_)
  refine xo_asg rfl rfl rfl ?_
  with_reducible refine xo_nil ?_
  with_reducible repeat (first | refine xq_then ?_ | refine xq_blockN ?_ | refine xq_scopeN ?_)
  with_reducible repeat refine xc_seq ?_
  with_reducible refine xc_region ?_
  refine xo_fa T_ rfl rfl rfl rfl rfl ?_
  refine xo_load0 T_ rfl rfl rfl (by repeat (first | exact List.Mem.head _ | apply List.Mem.tail | apply List.mem_append_right)) rfl rfl ?_
  refine xo_len T_ rfl rfl rfl rfl ?_
  refine xo_mv rfl rfl rfl ?_
  with_reducible refine xo_nil ?_
  with_reducible repeat (first | refine xq_then ?_ | refine xq_blockN ?_ | refine xq_scopeN ?_)
  with_reducible repeat refine xc_seq ?_
  with_reducible refine xc_block ?_
  refine xc_loopJ (γ := Nat × List Int × List Int) (fun q => q.1 ≤ r.length ∧ q.2.2 ++ holdsL gone q.2.1 (r.drop q.1) = holdsF r gone) (fun q => [(0, .func (.yield l) #[] #[]), (2, .pointer (some ⟨b3, 0, none⟩)), (4, .map (some b8)), (10, .slice A r.length c), (11, .int .i64 (r.length : Int)), (12, .int .i64 (q.1 : Int))])
    (fun q => [(b8, true, hmap (setV q.2.1)), (b3, false, cel [.map (some G)] 44), (G, false, hmap (setV gone))]) (fun q w => J q.2.2 w ∧ W.heap.size ≤ b8 ∧ W.heap.size ≤ w.heap.size ∧ SameB w0 w) (fun q => r.length - q.1) (0, [], []) ⟨Nat.zero_le _, rfl⟩ ⟨rfl, rfl, rfl, rfl, rfl, rfl, trivial⟩
    (fun w1 hw1 => ⟨hw1.bok (by repeat (first | exact List.Sublist.refl _ | apply List.Sublist.cons_cons | apply List.Sublist.cons | exact List.nil_sublist _)), hJ _ _ _ none h0 (hw1.kx.grown (fun k q => q.elim)) (fun r e => by cases e), hw1.own (b := b8) (by repeat (first | exact List.Mem.head _ | apply List.Mem.tail | apply List.mem_append_right)), hw1.kx.size, hS0.kx hszW hw1.kx (fun b q => q.elim)⟩) ?_
  rintro ⟨k, bs, ys⟩ ⟨hk1, hys⟩ wr hbok ⟨hJr, hb8, hszr, hSr⟩
  simp only at hk1 hys hJr ⊢
  have hXW : ∀ b, XW [(b8, true, hmap (setV bs)), (b3, false, cel [.map (some G)] 44), (G, false, hmap (setV gone))] b → b8 = b := by
    rintro b ⟨e, he, hwr, rfl⟩
    simp only [List.mem_cons, List.not_mem_nil, or_false] at he
    rcases he with rfl | rfl | rfl
    · rfl
    · cases hwr
    · cases hwr
  have hX0 : ∀ b, XW [(b8, true, hmap (setV bs)), (b3, false, cel [.map (some G)] 44), (G, false, hmap (setV gone))] b → w0.heap.size ≤ b := fun b h => by have := hXW b h; omega
  have hszr0 : w0.heap.size ≤ wr.heap.size := by omega
  have hwalk : ∀ wx, IMap wx b8 (setV bs) → ∀ q, some b8 = some q → W.heap.size ≤ q ∧ ∃ o : Obj, wx.heap[q]? = some o ∧ o.isWalk = true := fun wx ⟨es, cl, h, _⟩ q e => by
    cases e
    exact ⟨hb8, _, h, rfl⟩
  have hMr : IMap wr b8 (setV bs) := by
    obtain ⟨o, h5, h6⟩ := hbok.bl (b8, true, hmap (setV bs)) (by repeat (first | exact List.Mem.head _ | apply List.Mem.tail | apply List.mem_append_right))
    exact imap_of h5 h6
  have hJn : ∀ (X : Nat → Prop) (w1 : World), (∀ b, X b → b8 = b) → Kx X wr w1 → J ys w1 := fun X w1 hX kx => hJ ys wr w1 (some b8) hJr (kx.grown (fun k q => congrArg some (hX k q))) (hwalk wr hMr)
  with_reducible repeat refine xc_seq ?_
  with_reducible refine xc_region ?_
  refine xo_lss rfl rfl rfl rfl ?_
  with_reducible refine xo_nil ?_
  with_reducible repeat (first | refine xq_then ?_ | refine xq_blockN ?_ | refine xq_scopeN ?_)
  with_reducible repeat refine xc_seq ?_
  refine xc_cond rfl (fun h => ?_) (fun h => ?_)
  · have hlt : k < r.length := by have := of_decide_eq_true h; omega
    obtain ⟨ad, A2, c2, rfl, r1, hc2, hw2⟩ := rec_at hr k hlt
    replace r1 := r1.same hSr hX0
    rw [drop_at r zRec k hlt, holdsL] at hys
    generalize r.getD k zRec = x at *
    with_reducible refine xc_skip ?_
    with_reducible repeat (first | refine xq_then ?_ | refine xq_blockN ?_ | refine xq_scopeN ?_)
    with_reducible repeat refine xc_seq ?_
    with_reducible refine xc_block ?_
    with_reducible repeat refine xc_seq ?_
    with_reducible refine xc_region ?_
    refine xo_ia T_ rfl rfl rfl rfl rfl ⟨by omega, by omega⟩ rfl ?_
    refine xo_loadRN T_ rfl rfl rfl (by assumption) rfl rfl ?_
    refine xo_alloc T_ rfl rfl rfl rfl (fun b6 => ?_)
    refine xo_store T_ rfl rfl rfl rfl (by repeat (first | exact List.Mem.head _ | apply List.Mem.tail | apply List.mem_append_right)) rfl rfl rfl rfl (by repeat (first | exact Upd.head | apply Upd.tail | apply Upd.app)) rfl ?_
    with_reducible refine xo_nil ?_
    with_reducible repeat (first | refine xq_then ?_ | refine xq_blockN ?_ | refine xq_scopeN ?_)
    with_reducible repeat refine xc_seq ?_
    with_reducible refine xc_region ?_
    refine xo_loadN T_ rfl rfl rfl (by repeat (first | exact List.Mem.head _ | apply List.Mem.tail | apply List.mem_append_right)) rfl rfl ?_
    refine xo_mv rfl rfl rfl ?_
    refine xo_build TB_ rfl rfl rfl rfl rfl ?_
    refine xo_alloc T_ rfl rfl rfl rfl (fun b7 => ?_)
    refine xo_store T_ rfl rfl rfl rfl (by repeat (first | exact List.Mem.head _ | apply List.Mem.tail | apply List.mem_append_right)) rfl rfl rfl rfl (by repeat (first | exact Upd.head | apply Upd.tail | apply Upd.app)) rfl ?_
    with_reducible refine xo_nil ?_
    with_reducible repeat (first | refine xq_then ?_ | refine xq_blockN ?_ | refine xq_scopeN ?_)
    cases hgo : decide (x.f0 ∈ gone) <;> cases hst : !standsF bs x.f2
    all_goals
      with_reducible repeat refine xc_seq ?_
      with_reducible refine xc_region ?_
      refine xo_load0 T_ rfl rfl rfl (by repeat (first | exact List.Mem.head _ | apply List.Mem.tail | apply List.mem_append_right)) rfl rfl ?_
      refine xo_fa T_ rfl rfl rfl rfl rfl ?_
      refine xo_fa T_ rfl rfl rfl rfl rfl ?_
      refine xo_load0 T_ rfl rfl rfl (by repeat (first | exact List.Mem.head _ | apply List.Mem.tail | apply List.mem_append_right)) rfl rfl ?_
      refine xo_sget T_ rfl rfl rfl rfl rfl rfl (by repeat (first | exact List.Mem.head _ | apply List.Mem.tail | apply List.mem_append_right)) rfl ?_
      refine xo_mv rfl rfl rfl ?_
      refine xo_as (i := 24) rfl (congrArg Value.bool hgo) ?_
      first
        | refine xo_not rfl rfl ?_
        | (refine xo_loadN T_ rfl rfl rfl (by repeat (first | exact List.Mem.head _ | apply List.Mem.tail | apply List.mem_append_right)) rfl rfl ?_)
      first
        | refine xo_not rfl rfl ?_
        | (refine xo_callB (fs := []) (cs := []) rfl rfl rfl stands_enters rfl (fun w1 hw1 => stands_calls x.f0 x.f1 A2 c2 b8 x.f2 bs w1 (ways_same (hSr.kx hszr0 hw1.kx hX0) hw2) (hw1.imap (wr := true) (by repeat (first | exact List.Mem.head _ | apply List.Mem.tail | apply List.mem_append_right)))) ?_)
      first
        | refine xo_not rfl rfl ?_
        | (refine xo_notOp rfl rfl rfl ?_)
      first | refine xo_pickT rfl rfl rfl rfl ?_ | refine xo_pickF rfl rfl rfl rfl ?_
      first | refine xo_as (i := 28) rfl (congrArg Value.bool hst) ?_ | skip
      with_reducible refine xo_nil ?_
      with_reducible repeat (first | refine xq_then ?_ | refine xq_blockN ?_ | refine xq_scopeN ?_)
      with_reducible repeat refine xc_seq ?_
      first | refine xc_condT rfl ?_ | refine xc_condF rfl ?_
    rotate_left
    iterate 3
      · with_reducible refine xc_exit ?_
        with_reducible repeat (first | refine xq_blockX ?_ | refine xq_thenE ?_ | refine xq_blockE rfl ?_ | refine xq_scopeE ?_)
        with_reducible repeat (first | refine xq_then ?_ | refine xq_blockN ?_ | refine xq_scopeN ?_)
        with_reducible repeat refine xc_seq ?_
        with_reducible refine xc_region ?_
        refine xo_add rfl rfl rfl (by omega) rfl ?_
        refine xo_mv rfl rfl rfl ?_
        with_reducible refine xo_nil ?_
        with_reducible repeat (first | refine xq_then ?_ | refine xq_blockN ?_ | refine xq_scopeN ?_)
        refine xq_againJ _ _ _ _ _ _ (k + 1, bs, ys) ⟨hlt, ?_⟩ (by first | omega | (simp only; omega)) ⟨rfl, rfl, rfl, rfl, rfl, rfl, trivial⟩ (fun w1 hw1 => ⟨hw1.bok (by repeat (first | exact List.Sublist.refl _ | apply List.Sublist.cons_cons | apply List.Sublist.cons | exact List.nil_sublist _)), hJn _ _ hXW hw1.kx, hb8, Nat.le_trans hszr hw1.kx.size, hSr.kx hszr0 hw1.kx hX0⟩)
        simpa only [hgo, hst, Bool.true_or, Bool.or_true, Bool.false_or, Bool.or_false, ↓reduceIte] using hys
    have hys2 : ys ++ x.f0 :: holdsL gone (insN x.f0 bs) (r.drop (k + 1)) = holdsF r gone := by simpa only [hgo, hst, Bool.or_self, Bool.false_eq_true, ↓reduceIte] using hys
    have hlen : ys.length < (holdsF r gone).length := by rw [← hys2]; simp
    with_reducible refine xc_skip ?_
    with_reducible repeat (first | refine xq_then ?_ | refine xq_blockN ?_ | refine xq_scopeN ?_)
    with_reducible repeat refine xc_seq ?_
    with_reducible refine xc_region ?_
    refine xo_mv rfl rfl rfl ?_
    refine xo_fa T_ rfl rfl rfl rfl rfl ?_
    refine xo_fa T_ rfl rfl rfl rfl rfl ?_
    refine xo_load0 T_ rfl rfl rfl (by repeat (first | exact List.Mem.head _ | apply List.Mem.tail | apply List.mem_append_right)) rfl rfl ?_
    refine xo_sins T_ rfl rfl rfl rfl rfl rfl (by repeat (first | exact List.Mem.head _ | apply List.Mem.tail | apply List.mem_append_right)) (by repeat (first | exact Upd.head | apply Upd.tail | apply Upd.app)) rfl ?_
    with_reducible refine xo_nil ?_
    with_reducible repeat (first | refine xq_then ?_ | refine xq_blockN ?_ | refine xq_scopeN ?_)
    with_reducible refine xc_seq ?_
    with_reducible repeat refine xc_seq ?_
    with_reducible refine xc_region ?_
    refine xo_mv rfl rfl rfl ?_
    refine xo_fa T_ rfl rfl rfl rfl rfl ?_
    refine xo_fa T_ rfl rfl rfl rfl rfl ?_
    refine xo_load0 T_ rfl rfl rfl (by repeat (first | exact List.Mem.head _ | apply List.Mem.tail | apply List.mem_append_right)) rfl rfl ?_
    refine xo_yield rfl rfl rfl rfl (fun w1 hw1 => ?_)
    obtain ⟨fn, tmps, assign, body, hy1, hy2⟩ := hY ys x.f0 w1 (hJn _ _ hXW hw1.kx) hlen
    refine ⟨fn, tmps, assign, body, hy1, hy2.mono ?_⟩
    have hS1 := hSr.kx hszr0 hw1.kx hX0
    have hM1 : IMap w1 b8 (setV (insN x.f0 bs)) := hw1.imap (wr := true) (by repeat (first | exact List.Mem.head _ | apply List.Mem.tail | apply List.mem_append_right))
    have hG1 : IMap w1 G (setV gone) := hw1.imap (wr := false) (by repeat (first | exact List.Mem.head _ | apply List.Mem.tail | apply List.mem_append_right))
    have h31 := hw1.obj (b := b3) (wr := false) (cs := [.map (some G)]) (t := 44) (by repeat (first | exact List.Mem.head _ | apply List.Mem.tail | apply List.mem_append_right))
    have hnd1 := hw1.nd
    have hsz1 := hw1.kx.size
    clear hw1 hy1 hy2 hys
    rintro e W3 (⟨rfl, hJ3, hk3⟩ | ⟨rfl, hJx3⟩)
    · have hM3 : IMap W3 b8 (setV (insN x.f0 bs)) := by
        obtain ⟨es, cl, h5, h6⟩ := hM1
        exact ⟨es, cl, hk3.2.2 b8 _ (by have := hW.size; omega) h5 rfl, h6⟩
      have hG3 : IMap W3 G (setV gone) := hG1.at_ (hk3.1 G (hK G (.inr (.inr (.inr rfl)))))
      have h33 := (hk3.1 b3 (hK b3 (.inr (.inr (.inl rfl))))).trans h31
      have hS3 : SameB w0 W3 := fun q hq => (hk3.1 q (hK q (.inl hq))).trans (hS1 q hq)
      have n83 : b8 ≠ b3 := by have := hW.size; omega
      have n8G : b8 ≠ G := by have := hW.size; omega
      have hsz3 : W.heap.size ≤ W3.heap.size := by have := hk3.2.1; omega
      have hbok3 : BOK [(b8, true, hmap (setV (insN x.f0 bs))), (b3, false, cel [.map (some G)] 44), (G, false, hmap (setV gone))] W3 := by
        refine ⟨?_, by simp [n83, n8G, n3G]⟩
        intro e he
        simp only [List.mem_cons, List.not_mem_nil, or_false] at he
        rcases he with rfl | rfl | rfl
        · exact hmap_of hM3
        · exact ⟨_, h33, rfl⟩
        · exact hmap_of hG3
      refine ⟨.bool true, _, W3, _, rfl, hbok3.wok, ?_⟩
      refine xo_notOp rfl rfl rfl ?_
      with_reducible refine xo_nil ?_
      with_reducible repeat (first | refine xq_then ?_ | refine xq_blockN ?_ | refine xq_scopeN ?_)
      with_reducible repeat refine xc_seq ?_
      refine xc_condF rfl ?_
      with_reducible refine xc_skip ?_
      with_reducible repeat (first | refine xq_then ?_ | refine xq_blockN ?_ | refine xq_scopeN ?_)
      with_reducible repeat refine xc_seq ?_
      with_reducible refine xc_region ?_
      refine xo_add rfl rfl rfl (by omega) rfl ?_
      refine xo_mv rfl rfl rfl ?_
      with_reducible refine xo_nil ?_
      with_reducible repeat (first | refine xq_then ?_ | refine xq_blockN ?_ | refine xq_scopeN ?_)
      have hXW3 : ∀ b, XW [(b8, true, hmap (setV (insN x.f0 bs))), (b3, false, cel [.map (some G)] 44), (G, false, hmap (setV gone))] b → b8 = b := by
        rintro b ⟨e, he, hwr, rfl⟩
        simp only [List.mem_cons, List.not_mem_nil, or_false] at he
        rcases he with rfl | rfl | rfl
        · rfl
        · cases hwr
        · cases hwr
      refine xq_againJ _ _ _ _ _ _ (k + 1, insN x.f0 bs, ys ++ [x.f0]) ⟨hlt, by simp only [List.append_assoc, List.cons_append, List.nil_append]; exact hys2⟩ (by first | omega | (simp only; omega)) ⟨rfl, rfl, rfl, rfl, rfl, rfl, trivial⟩
        (fun w1 hw1 => ⟨hw1.bok (by repeat (first | exact List.Sublist.refl _ | apply List.Sublist.cons_cons | apply List.Sublist.cons | exact List.nil_sublist _)), hJ _ W3 w1 (some b8) hJ3 (hw1.kx.grown (fun k q => congrArg some (hXW3 k q))) (fun q e => by cases e; obtain ⟨es, cl, h5, _⟩ := hM3; exact ⟨hb8, _, h5, rfl⟩), hb8, Nat.le_trans hsz3 hw1.kx.size, hS3.kx (by omega) hw1.kx (fun b h => by have := hXW3 b h; omega)⟩)
    · refine ⟨.bool false, [], W3, XNone, rfl, WOK.start _ _, ?_⟩
      refine xo_notOp rfl rfl rfl ?_
      with_reducible refine xo_nil ?_
      with_reducible repeat (first | refine xq_then ?_ | refine xq_blockN ?_ | refine xq_scopeN ?_)
      with_reducible repeat refine xc_seq ?_
      refine xc_condT rfl ?_
      with_reducible repeat refine xc_seq ?_
      with_reducible refine xc_ret ?_
      with_reducible repeat (first | refine xq_thenR ?_ | refine xq_blockR ?_ | refine xq_scopeR ?_)
      exact xq_ret0 rfl fun w2 hw2 => ⟨⟨_, rfl⟩, .inr ⟨_, trivial, hJx _ W3 w2 none hJx3 (hw2.kx.grown (fun k q => q.elim)) (fun r e => by cases e)⟩⟩
  · have hge : ¬ k < r.length := by have := of_decide_eq_false h; omega
    rw [List.drop_of_length_le (by omega), holdsL, List.append_nil] at hys
    with_reducible refine xc_exit ?_
    with_reducible repeat (first | refine xq_blockX ?_ | refine xq_thenE ?_ | refine xq_blockE rfl ?_ | refine xq_scopeE ?_)
    exact xq_end0 rfl fun w2 hw2 => ⟨⟨_, rfl⟩, .inl ⟨ys, hys, hJn _ _ hXW hw2.kx⟩⟩
end Go.Proofs.Ytcmepdamemnbkaa
namespace Go.Proofs.Ytcmepdamemnbkaa
open Go.RowKit Go.Proofs.YtcmepdamemnbkaaW.PrintWords
set_option linter.unusedVariables false
set_option linter.unusedSimpArgs false
section
variable {ro : Option Nat} {n N : Nat} {ds : List Deferred} {w0 : World} {X : Nat → Prop} {Q : Exit → Act → World → Prop} {ops : List Oper} {σ : Slots} {η : Hp} {rest : List Oper}
variable {d : Option Tmp} {ty : TypeId} {pos : String} {aft : Array Edge} {g : Option (Nat × Bool)}
/-- the call of holds -/
theorem xo_holds {x y : Operand} {ats : Array TypeId} {A : Option Addr} {k c M0 G : Nat} (hg : gS ops σ g = some true) (hx : ev σ x = some (.agg #[.slice A k c, .map (some M0)])) (hy : ev σ y = some (.map (some G))) (hN : dstOK N d = true)
    (h : ∀ b2 b3, XO Try.prog ro n N ds w0 X Q ops (putS d (.func (.func 47) #[] #[.pointer (some ⟨b2, 0, none⟩), .pointer (some ⟨b3, 0, none⟩)]) σ) ((b3, true, cel [.map (some G)] 44) :: (b2, true, cel [.slice A k c, .map (some M0)] 46) :: η) rest) :
    XO Try.prog ro n N ds w0 X Q ops σ η (⟨d, .call { callee := .value (.func 22), args := #[x, y], argTypes := ats }, ty, pos, aft, g⟩ :: rest) := by
  refine xo_call (xs := [x, y]) (vs := [.agg #[.slice A k c, .map (some M0)], .map (some G)]) (fs := []) (cs := []) hg rfl (by simp [evs, hx, hy]) holds_enters hN (fun w3 hw3 => (holds_calls A k c M0 G w3).mono ?_)
  rintro e w4 ⟨b2, b3, rfl, hb2, hb3, h23, h2, h3, hb4⟩
  exact ⟨_, _, rfl, hw3.more2 (φ := cel [.slice A k c, .map (some M0)] 46) (φ2 := cel [.map (some G)] 44) hb4 hb2 hb3 h23 h2 h3 rfl rfl, h b2 b3⟩
/-- what Collect makes of what it yields -/
theorem xo_collect {x : Operand} {ats : Array TypeId} {A : Option Addr} {c M0 G b2 b3 : Nat} {wr : Bool} {r : List RecT} {gone : List Int} (hr : Kd.C recK w0 A r.length r) (hlen : r.length ≤ 1000000) (hg : gS ops σ g = some true) (hx : ev σ x = some (.func (.func 47) #[] #[.pointer (some ⟨b2, 0, none⟩), .pointer (some ⟨b3, 0, none⟩)]))
    (h2 : (b2, true, cel [.slice A r.length c, .map (some M0)] 46) ∈ η) (h3 : (b3, true, cel [.map (some G)] 44) ∈ η) (hG : (G, wr, hmap (setV gone)) ∈ η) (h23 : ∀ w, WOK w0 XNone η w → b2 ≠ b3) (hN : dstOK N d = true)
    (h : ∀ rr : RowR, (rr = none → holdsF r gone = []) → XO Try.prog ro n N ds w0 XNone Q ops (putS d (valR rr (holdsF r gone).length) σ) (hpR 3 1 rr (holdsF r gone).length ((holdsF r gone).map (.int .i64)) ++ η) rest) :
    XO Try.prog ro n N ds w0 XNone Q ops σ η (⟨d, .call { callee := .value (.func 21), args := #[x], argTypes := ats }, ty, pos, aft, g⟩ :: rest) := by
  have hll : (holdsF r gone).length ≤ 1000000 := by
    have hle : ∀ (r : List RecT) (bs : List Int), (holdsL gone bs r).length ≤ r.length := by
      intro r
      induction r with
      | nil => intro bs; simp [holdsL]
      | cons x r ih =>
        intro bs
        unfold holdsL
        split
        · have := ih bs; simp; omega
        · have := ih (insN x.f0 bs); simp; omega
    exact Nat.le_trans (hle r []) hlen
  refine xo_call (xs := [x]) (vs := [.func (.func 47) #[] #[.pointer (some ⟨b2, 0, none⟩), .pointer (some ⟨b3, 0, none⟩)]]) (fs := []) (cs := []) hg rfl (by simp [evs, hx]) collect_enters hN (fun w4 hw4 => ?_)
  have k2 := hw4.obj h2
  have k3 := hw4.obj h3
  have hGi : IMap w4 G (setV gone) := hw4.imap hG
  have hit := iter_holds A c r gone M0 G b2 b3 w0 w4 hr (SameB.of_below hw4.kx.below) hw4.kx.size k2 k3 hGi (h23 w4 hw4)
  have hlt : ∀ k, needOf w0 b2 b3 G k → k < w4.heap.size := by
    have h5 := (Array.getElem?_eq_some_iff.1 k2).1
    have h6 := (Array.getElem?_eq_some_iff.1 k3).1
    have h7 := hGi.lt
    have h8 := hw4.kx.size
    rintro k (h | h | h | h) <;> omega
  refine (collect_calls _ [.pointer (some ⟨b2, 0, none⟩), .pointer (some ⟨b3, 0, none⟩)] iter_enters _ _ w4 hit hlt hll).mono ?_
  rintro e w5 ⟨rr, rfl, hrow, hb⟩
  exact ⟨_, _, rfl, hw4.row hb hrow, h rr hrow.1⟩
end
theorem ne_of_nd {η : Hp} {w0 : World} {X : Nat → Prop} {b3 b2 : Nat} {w1 w2 : Bool} {φ φ' : HP} {w : World} (h : WOK w0 X ((b3, w1, φ) :: (b2, w2, φ') :: η) w) : b2 ≠ b3 := by
  have := h.nd
  simp only [List.map_cons, List.nodup_cons, List.mem_cons, not_or] at this
  exact fun e => this.1.1 e.symm
end Go.Proofs.Ytcmepdamemnbkaa
namespace Go.Proofs.Ytcmepdamemnbkaa
open Go.RowKit Go.Proofs.YtcmepdamemnbkaaW.PrintWords
set_option linter.unusedVariables false
set_option linter.unusedSimpArgs false
theorem index_calls (A : Option Addr) (c : Nat) (zs : List Int) (v : Int) (w : World) (hr : Kd.C (Kd.int .i64) w A zs.length zs) :
    Calls Try.prog 50 #[.slice A zs.length c, .int .i64 v] w fun e w' => e = .returned (.int .i64 (idxF (fun x => decide (v = x)) zs 0)) ∧ Below w.heap.size w w' := by
  have hn := hr.2.1
  refine x_calls (X := XNone) Try.func50 rfl rfl rfl ?_
  with_reducible repeat refine xc_seq ?_
  with_reducible refine xc_region ?_
  refine xo_asg rfl rfl rfl ?_
  with_reducible refine xo_nil ?_
  with_reducible repeat (first | refine xq_then ?_ | refine xq_blockN ?_ | refine xq_scopeN ?_)
  with_reducible repeat refine xc_seq ?_
  with_reducible refine xc_region ?_
  refine xo_mv rfl rfl rfl ?_
  refine xo_len T_ rfl rfl rfl rfl ?_
  refine xo_mv rfl rfl rfl ?_
  with_reducible refine xo_nil ?_
  with_reducible repeat (first | refine xq_then ?_ | refine xq_blockN ?_ | refine xq_scopeN ?_)
  with_reducible repeat refine xc_seq ?_
  with_reducible refine xc_block ?_
  refine xc_loop (γ := Nat) (fun k => k ≤ zs.length ∧ ∀ j, j < k → decide (v = zs.getD j 0) = false) (fun k => [(0, .slice A zs.length c), (1, .int .i64 v), (6, .slice A zs.length c), (7, .int .i64 (zs.length : Int)), (8, .int .i64 (k : Int))]) (fun _ => []) (fun k => zs.length - k) 0
    ⟨Nat.zero_le _, fun j hj => absurd hj (Nat.not_lt_zero _)⟩ ⟨rfl, rfl, rfl, rfl, rfl, trivial⟩ (by repeat (first | exact List.Sublist.refl _ | apply List.Sublist.cons_cons | apply List.Sublist.cons | exact List.nil_sublist _)) ?_
  rintro k ⟨hk, hno⟩
  with_reducible repeat refine xc_seq ?_
  with_reducible refine xc_region ?_
  refine xo_lss rfl rfl rfl rfl ?_
  with_reducible refine xo_nil ?_
  with_reducible repeat (first | refine xq_then ?_ | refine xq_blockN ?_ | refine xq_scopeN ?_)
  with_reducible repeat refine xc_seq ?_
  refine xc_cond rfl (fun h => ?_) (fun h => ?_)
  · have hlt : k < zs.length := by have := of_decide_eq_true h; omega
    obtain ⟨ad, rfl, r1⟩ := int_at hr k hlt
    with_reducible refine xc_skip ?_
    with_reducible repeat (first | refine xq_then ?_ | refine xq_blockN ?_ | refine xq_scopeN ?_)
    with_reducible repeat refine xc_seq ?_
    with_reducible refine xc_block ?_
    with_reducible repeat refine xc_seq ?_
    with_reducible refine xc_region ?_
    refine xo_mv rfl rfl rfl ?_
    refine xo_asg rfl rfl rfl ?_
    with_reducible refine xo_nil ?_
    with_reducible repeat (first | refine xq_then ?_ | refine xq_blockN ?_ | refine xq_scopeN ?_)
    with_reducible repeat refine xc_seq ?_
    with_reducible refine xc_region ?_
    refine xo_mv rfl rfl rfl ?_
    refine xo_mv rfl rfl rfl ?_
    refine xo_mv rfl rfl rfl ?_
    refine xo_ia T_ rfl rfl rfl rfl rfl ⟨by omega, by omega⟩ rfl ?_
    refine xo_loadR0 T_ rfl rfl rfl (by first | assumption | exact RO.fld (by assumption) rfl) rfl ?_
    refine xo_eql rfl rfl rfl rfl ?_
    with_reducible refine xo_nil ?_
    with_reducible repeat (first | refine xq_then ?_ | refine xq_blockN ?_ | refine xq_scopeN ?_)
    with_reducible repeat refine xc_seq ?_
    refine xc_cond rfl (fun h2 => ?_) (fun h2 => ?_)
    · with_reducible repeat refine xc_seq ?_
      with_reducible refine xc_region ?_
      refine xo_mv rfl rfl rfl ?_
      refine xo_asg rfl rfl rfl ?_
      with_reducible refine xo_nil ?_
      with_reducible repeat (first | refine xq_then ?_ | refine xq_blockN ?_ | refine xq_scopeN ?_)
      with_reducible repeat refine xc_seq ?_
      with_reducible refine xc_ret ?_
      with_reducible repeat (first | refine xq_thenR ?_ | refine xq_blockR ?_ | refine xq_scopeR ?_)
      exact xq_ret1 rfl rfl fun w' hw => ⟨by rw [idxF_hit (fun x => decide (v = x)) 0 zs k 0 hlt h2 hno]; simp, hw.kx.below⟩
    · with_reducible refine xc_skip ?_
      with_reducible repeat (first | refine xq_then ?_ | refine xq_blockN ?_ | refine xq_scopeN ?_)
      with_reducible repeat refine xc_seq ?_
      with_reducible refine xc_region ?_
      refine xo_add rfl rfl rfl (by omega) rfl ?_
      refine xo_mv rfl rfl rfl ?_
      with_reducible refine xo_nil ?_
      with_reducible repeat (first | refine xq_then ?_ | refine xq_blockN ?_ | refine xq_scopeN ?_)
      refine xq_again _ _ _ _ _ (k + 1) ⟨by omega, fun j hj => ?_⟩ (by omega) ⟨rfl, rfl, rfl, rfl, rfl, trivial⟩ (by repeat (first | exact List.Sublist.refl _ | apply List.Sublist.cons_cons | apply List.Sublist.cons | exact List.nil_sublist _))
      by_cases e : j = k
      · subst e; exact h2
      · exact hno j (by omega)
  · have hge : ¬ k < zs.length := by have := of_decide_eq_false h; omega
    with_reducible refine xc_exit ?_
    with_reducible repeat (first | refine xq_blockX ?_ | refine xq_thenE ?_ | refine xq_blockE rfl ?_ | refine xq_scopeE ?_)
    with_reducible repeat (first | refine xq_then ?_ | refine xq_blockN ?_ | refine xq_scopeN ?_)
    with_reducible repeat refine xc_seq ?_
    with_reducible refine xc_region ?_
    refine xo_asg rfl rfl rfl ?_
    with_reducible refine xo_nil ?_
    with_reducible repeat (first | refine xq_then ?_ | refine xq_blockN ?_ | refine xq_scopeN ?_)
    with_reducible repeat refine xc_seq ?_
    with_reducible refine xc_ret ?_
    with_reducible repeat (first | refine xq_thenR ?_ | refine xq_blockR ?_ | refine xq_scopeR ?_)
    refine xq_ret1 rfl rfl fun w' hw => ⟨?_, hw.kx.below⟩
    rw [idxF_miss (fun x => decide (v = x)) 0 zs 0 (fun j hj => hno j (by omega))]
theorem contains_calls (A : Option Addr) (c : Nat) (zs : List Int) (v : Int) (w : World) (hr : Kd.C (Kd.int .i64) w A zs.length zs) :
    Calls Try.prog 29 #[.slice A zs.length c, .int .i64 v] w fun e w' => e = .returned (.bool (decide (v ∈ zs))) ∧ Below w.heap.size w w' := by
  have e1 : decide (v ∈ zs) = decide (0 ≤ idxF (fun x => decide (v = x)) zs 0) := by
    rw [idxF_any, Bool.eq_iff_iff]
    simp [List.any_eq_true]
  rw [e1]
  have eg2 := enters_of Try.func50 (by kernel_rfl) rfl
  refine x_calls (X := XNone) Try.func29 rfl rfl rfl ?_
  with_reducible repeat refine xc_seq ?_
  with_reducible refine xc_region ?_
  refine xo_asg rfl rfl rfl ?_
  with_reducible refine xo_nil ?_
  with_reducible repeat (first | refine xq_then ?_ | refine xq_blockN ?_ | refine xq_scopeN ?_)
  with_reducible repeat refine xc_seq ?_
  with_reducible refine xc_region ?_
  refine xo_mv rfl rfl rfl ?_
  refine xo_mv rfl rfl rfl ?_
  refine xo_callB (fs := []) (cs := []) rfl rfl rfl eg2 rfl (fun w1 hw1 => index_calls A c zs v w1 (Kd.C_below hr hw1.kx.below)) ?_
  refine xo_geq rfl rfl rfl rfl ?_
  refine xo_asg rfl rfl rfl ?_
  with_reducible refine xo_nil ?_
  with_reducible repeat (first | refine xq_then ?_ | refine xq_blockN ?_ | refine xq_scopeN ?_)
  with_reducible repeat refine xc_seq ?_
  with_reducible refine xc_ret ?_
  with_reducible repeat (first | refine xq_thenR ?_ | refine xq_blockR ?_ | refine xq_scopeR ?_)
  exact (xq_ret1 rfl rfl fun w' hw => ⟨rfl, hw.kx.below⟩)
theorem contains_enters : ∀ args w, (callFunc 29 args).run Try.prog w = .ok (.enter 29 args) w := enters_of Try.func29 (by kernel_rfl) rfl
/-- a row of the call's own, as it is read -/
theorem C_orow {w : World} {b m cap : Nat} {xs : List Int} {t : TypeId} {o : Obj} (h1 : w.heap[b]? = some o) (h2 : orow t 1 m cap (xs.map (.int .i64)) o) (hl : xs.length = m) (hm : m ≤ 9223372036854775807) : Kd.C (Kd.int .i64) w (some ⟨b, 0, none⟩) m xs := by
  obtain ⟨cur, rfl, h5, h6, h7, h8⟩ := h2
  refine ⟨hl, hm, fun _ => ⟨_, rfl, fun j p hj => ⟨[.int .i64 p], rfl, rfl, fun i u hu => ?_⟩⟩⟩
  have hi : i = 0 := by
    have := (List.getElem?_eq_some_iff.1 hu).1
    simpa using this
  subst hi
  simp at hu
  subst hu
  rw [Addr.add_lit]
  have hjm : j < m := by rw [← hl]; exact (List.getElem?_eq_some_iff.1 hj).1
  have h9 : (xs.map (Value.int .i64))[j]? = some (.int .i64 p) := by simp [hj]
  rw [← h8, Nat.mul_one, List.getElem?_take, if_pos hjm] at h9
  simp only [Kd.int, Kd.scalar, Nat.zero_add, Nat.mul_one, Nat.add_zero]
  rw [cell_of_row w b j _ t _ h1, ← Array.getElem?_toList]
  exact h9
theorem RowAt.C {e : TypeId} {base : Nat} {w : World} {r : RowR} {xs : List Int} (h : RowAt e base w r xs) (hm : xs.length ≤ 9223372036854775807) : ∃ A c, valR r xs.length = .slice A xs.length c ∧ xs.length ≤ c ∧ Kd.C (Kd.int .i64) w A xs.length xs := by
  cases r with
  | none =>
    have := h.1 rfl
    subst this
    exact ⟨none, 0, rfl, Nat.le_refl _, Kd.C_nil _ _⟩
  | some p =>
    obtain ⟨h1, o, h2, h3⟩ := h.2 p rfl
    have h4 : xs.length ≤ p.2 := by obtain ⟨_, _, h5, _⟩ := h3; exact h5
    exact ⟨some ⟨p.1, 0, none⟩, p.2, rfl, h4, C_orow h2 h3 rfl hm⟩
/-- a closure that answers p in whatever world that is as w is but for the blocks of X -/
def AsksK (P : Program) (X : Nat → Prop) (w : World) (g : Nat) (cs : List Value) (p : Int → Bool) : Prop :=
  ∀ (x : Int) (W : World), Kx X w W → Calls P g ([Value.int .i64 x] ++ cs).toArray W fun e W' => e = .returned (.bool (p x)) ∧ Below W.heap.size W W'
theorem Kx.then_below {X : Nat → Prop} {w0 w w' : World} (h : Kx X w0 w) (hb : Below w.heap.size w w') : Kx X w0 w' := ⟨hb.os.trans h.os, hb.tape.trans h.tape, hb.output.trans h.output, Nat.le_trans h.size hb.size, fun k hk hx => (hb.block k (Nat.lt_of_lt_of_le hk h.size)).trans (h.block k hk hx)⟩
theorem filter_take_le {α : Type} (q : α → Bool) (xs : List α) (j : Nat) : ((xs.take j).filter q).length ≤ j := Nat.le_trans (List.length_filter_le _ _) (List.length_take_le _ _)
theorem idxF_neg {α : Type} (p : α → Bool) : ∀ (zs : List α) (i : Nat), idxF p zs i = -1 → ∀ x ∈ zs, p x = false
  | [], _, _, x, h => by cases h
  | y :: r, i, h, x, hx => by
    unfold idxF at h
    split at h
    · omega
    · rename_i hy
      rcases List.mem_cons.1 hx with rfl | hx
      · simpa using hy
      · exact idxF_neg p r (i + 1) h x hx
theorem idxF_pos {α : Type} (p : α → Bool) (z : α) : ∀ (zs : List α) (i : Nat), idxF p zs i ≠ -1 → ∃ k, idxF p zs i = ((i + k : Nat) : Int) ∧ k < zs.length ∧ p (zs.getD k z) = true ∧ (zs.take k).filter (fun x => !p x) = zs.take k
  | [], i, h => absurd rfl h
  | y :: r, i, h => by
    by_cases hy : p y = true
    · exact ⟨0, by simp [idxF, hy], by simp, by simpa using hy, by simp⟩
    · have e : idxF p (y :: r) i = idxF p r (i + 1) := by simp [idxF, hy]
      rw [e] at h ⊢
      obtain ⟨k, h1, h2, h3, h4⟩ := idxF_pos p z r (i + 1) h
      exact ⟨k + 1, by rw [h1]; omega, by simpa using h2, by simpa using h3, by simp [h4, hy]⟩
theorem take_succ_filter (q : Int → Bool) (xs : List Int) (j : Nat) (hj : j < xs.length) : (xs.take (j + 1)).filter q = (xs.take j).filter q ++ if q (xs.getD j 0) then [xs.getD j 0] else [] := by
  rw [List.take_succ_eq_append_getElem hj, List.filter_append]
  simp [List.getD_eq_getElem?_getD, List.getElem?_eq_getElem hj, List.filter_cons]
set_option maxHeartbeats 4000000 in
/-- slices.DeleteFunc, in place, on a row of the caller's own -/
theorem deleteFunc_calls (p : Int → Bool) (g : Nat) (cs : List Value) (eg : ∀ args w, (callFunc g args).run Try.prog w = .ok (.enter g args) w) (b cap : Nat) (xs : List Int) (w : World) (o : Obj) (h1 : w.heap[b]? = some o) (h2 : orow 3 1 xs.length cap (xs.map (.int .i64)) o) (hl : xs.length ≤ 1000000)
    (hp : AsksK Try.prog (fun k => k = b) w g cs p) :
    Calls Try.prog 27 #[.slice (some ⟨b, 0, none⟩) xs.length cap, .func (.func g) #[] cs.toArray] w fun e w' => e = .returned (.slice (some ⟨b, 0, none⟩) (xs.filter fun x => !p x).length cap) ∧ Kx (fun k => k = b) w w' ∧ ∃ o', w'.heap[b]? = some o' ∧ orow 3 1 (xs.filter fun x => !p x).length cap ((xs.filter fun x => !p x).map (.int .i64)) o' := by
  have eg2 := enters_of Try.func49 (by kernel_rfl) rfl
  have hw0 : WOK w (fun k => k = b) [(b, true, orow 3 1 xs.length cap (xs.map (.int .i64)))] w := by
    refine ⟨Kx.refl _ w, ?_, by simp, ?_⟩
    · intro e he
      simp only [List.mem_singleton] at he
      subst he
      exact ⟨o, h1, h2⟩
    · intro e he _
      simp only [List.mem_singleton] at he
      subst he
      exact .inr rfl
  have hcap : xs.length ≤ cap := by obtain ⟨_, _, h5, _⟩ := h2; exact h5
  refine x_callsH (X := fun k => k = b) Try.func27 rfl rfl rfl hw0 ?_
  with_reducible repeat refine xc_seq ?_
  with_reducible refine xc_region ?_
  refine xo_asg rfl rfl rfl ?_
  with_reducible refine xo_nil ?_
  with_reducible repeat (first | refine xq_then ?_ | refine xq_blockN ?_ | refine xq_scopeN ?_)
  with_reducible repeat refine xc_seq ?_
  with_reducible refine xc_region ?_
  refine xo_mv rfl rfl rfl ?_
  refine xo_mv rfl rfl rfl ?_
  refine xo_callB (fs := []) (cs := []) rfl rfl rfl eg2 rfl (fun w1 hw1 => indexFunc_calls p g cs eg _ cap xs w1 (by obtain ⟨o1, h3, h4⟩ := hw1.bl _ (List.Mem.head _); exact C_orow h3 h4 rfl (by omega)) (fun x W hW => hp x W (hw1.kx.then_below hW))) ?_
  refine xo_asg rfl rfl rfl ?_
  with_reducible refine xo_nil ?_
  with_reducible repeat (first | refine xq_then ?_ | refine xq_blockN ?_ | refine xq_scopeN ?_)
  cases hi : decide (idxF p xs 0 = -1)
  all_goals
    with_reducible repeat refine xc_seq ?_
    with_reducible refine xc_region ?_
    refine xo_mv rfl rfl rfl ?_
    refine xo_eql rfl rfl rfl rfl ?_
    refine xo_as (i := 12) rfl (congrArg Value.bool hi) ?_
    with_reducible refine xo_nil ?_
    with_reducible repeat (first | refine xq_then ?_ | refine xq_blockN ?_ | refine xq_scopeN ?_)
    with_reducible repeat refine xc_seq ?_
    first | refine xc_condT rfl ?_ | refine xc_condF rfl ?_
  rotate_left
  · have hall := idxF_neg p xs 0 (of_decide_eq_true hi)
    have hf : (xs.filter fun x => !p x) = xs := List.filter_eq_self.2 (fun x hx => by simp [hall x hx])
    with_reducible repeat refine xc_seq ?_
    with_reducible refine xc_region ?_
    refine xo_mv rfl rfl rfl ?_
    refine xo_asg rfl rfl rfl ?_
    with_reducible refine xo_nil ?_
    with_reducible repeat (first | refine xq_then ?_ | refine xq_blockN ?_ | refine xq_scopeN ?_)
    with_reducible repeat refine xc_seq ?_
    with_reducible refine xc_ret ?_
    with_reducible repeat (first | refine xq_thenR ?_ | refine xq_blockR ?_ | refine xq_scopeR ?_)
    refine xq_ret1 rfl rfl fun w' hw => ⟨by rw [hf], hw.kx, ?_⟩
    rw [hf]
    exact hw.bl _ (List.Mem.head _)
  obtain ⟨k0, hk0, hk1, hk2, hk3⟩ := idxF_pos p 0 xs 0 (of_decide_eq_false hi)
  rw [Nat.zero_add] at hk0
  rw [hk0]
  clear hi
  with_reducible refine xc_skip ?_
  with_reducible repeat (first | refine xq_then ?_ | refine xq_blockN ?_ | refine xq_scopeN ?_)
  with_reducible repeat refine xc_seq ?_
  with_reducible refine xc_region ?_
  refine xo_mv rfl rfl rfl ?_
  refine xo_add rfl rfl rfl (by omega) rfl ?_
  refine xo_asg rfl rfl rfl ?_
  with_reducible refine xo_nil ?_
  with_reducible repeat (first | refine xq_then ?_ | refine xq_blockN ?_ | refine xq_scopeN ?_)
  with_reducible repeat refine xc_seq ?_
  with_reducible refine xc_block ?_
  refine xc_loop (γ := Nat × List Int) (fun q => q.1 ≤ xs.length ∧ ((xs.take q.1).filter fun x => !p x).length < q.1 ∧ q.2.length = xs.length ∧ q.2.take ((xs.take q.1).filter fun x => !p x).length = (xs.take q.1).filter (fun x => !p x) ∧ q.2.drop q.1 = xs.drop q.1)
    (fun q => [(0, .slice (some ⟨b, 0, none⟩) xs.length cap), (1, .func (.func g) #[] cs.toArray), (5, .int .i64 (((xs.take q.1).filter fun x => !p x).length : Int)), (6, .int .i64 (q.1 : Int))]) (fun q => [(b, true, orow 3 1 xs.length cap (q.2.map (.int .i64)))]) (fun q => xs.length - q.1) (k0 + 1, xs) ?_ ?_ (by repeat (first | exact List.Sublist.refl _ | apply List.Sublist.cons_cons | apply List.Sublist.cons | exact List.nil_sublist _)) ?_
  · have hk2' : (!p (xs.getD k0 0)) = false := by rw [hk2]; rfl
    have e1 : (xs.take (k0 + 1)).filter (fun x => !p x) = xs.take k0 := by
      simp only [take_succ_filter (fun x => !p x) xs k0 hk1, hk3, hk2', Bool.false_eq_true, ↓reduceIte, List.append_nil]
    have e2 : (xs.take k0).length = k0 := by rw [List.length_take]; omega
    show k0 + 1 ≤ xs.length ∧ ((xs.take (k0 + 1)).filter fun x => !p x).length < k0 + 1 ∧ xs.length = xs.length ∧ xs.take ((xs.take (k0 + 1)).filter fun x => !p x).length = (xs.take (k0 + 1)).filter (fun x => !p x) ∧ xs.drop (k0 + 1) = xs.drop (k0 + 1)
    rw [e1, e2]
    exact ⟨hk1, by omega, rfl, rfl, rfl⟩
  · have hk2' : (!p (xs.getD k0 0)) = false := by rw [hk2]; rfl
    have e : ((xs.take (k0 + 1)).filter fun x => !p x).length = k0 := by
      simp only [take_succ_filter (fun x => !p x) xs k0 hk1, hk3, hk2', Bool.false_eq_true, ↓reduceIte, List.append_nil, List.length_take]
      omega
    show subS [(0, _), (1, _), (5, .int .i64 (((xs.take (k0 + 1)).filter fun x => !p x).length : Int)), (6, _)] _
    rw [e]
    exact ⟨rfl, rfl, rfl, rfl, trivial⟩
  rintro ⟨j, ys⟩ ⟨hj, hcnt, hyl, hyt, hyd⟩
  simp only at hj hcnt hyl hyt hyd ⊢
  with_reducible repeat refine xc_seq ?_
  with_reducible refine xc_region ?_
  refine xo_mv rfl rfl rfl ?_
  refine xo_mv rfl rfl rfl ?_
  refine xo_len T_ rfl rfl rfl rfl ?_
  refine xo_lss rfl rfl rfl rfl ?_
  with_reducible refine xo_nil ?_
  with_reducible repeat (first | refine xq_then ?_ | refine xq_blockN ?_ | refine xq_scopeN ?_)
  with_reducible repeat refine xc_seq ?_
  refine xc_cond rfl (fun h => ?_) (fun h => ?_)
  · have hjl : j < xs.length := by have := of_decide_eq_true h; omega
    have hyj : ys[j]? = some (xs.getD j 0) := by
      have := congrArg (fun l : List Int => l[0]?) hyd
      simp only [List.getElem?_drop, Nat.add_zero] at this
      rw [this]
      simp [List.getD_eq_getElem?_getD, List.getElem?_eq_getElem hjl]
    have hsf := take_succ_filter (fun x => !p x) xs j hjl
    have hyd2 : ys.drop (j + 1) = xs.drop (j + 1) := by
      have := congrArg (List.drop 1) hyd
      simpa [List.drop_drop, Nat.add_comm] using this
    generalize xs.getD j 0 = y at *
    generalize hc0 : ((xs.take j).filter fun x => !p x) = fl at *
    with_reducible refine xc_skip ?_
    with_reducible repeat (first | refine xq_then ?_ | refine xq_blockN ?_ | refine xq_scopeN ?_)
    with_reducible repeat refine xc_seq ?_
    with_reducible refine xc_block ?_
    with_reducible repeat refine xc_seq ?_
    with_reducible refine xc_region ?_
    refine xo_mv rfl rfl rfl ?_
    refine xo_mv rfl rfl rfl ?_
    refine xo_ia T_ rfl rfl rfl rfl rfl ⟨by omega, by omega⟩ rfl ?_
    refine xo_loadO (v := .int .i64 y) T_ rfl rfl rfl (by repeat (first | exact List.Mem.head _ | apply List.Mem.tail | apply List.mem_append_right)) (by simp [szN, hyj]) rfl ?_
    refine xo_asg rfl rfl rfl ?_
    with_reducible refine xo_nil ?_
    with_reducible repeat (first | refine xq_then ?_ | refine xq_blockN ?_ | refine xq_scopeN ?_)
    with_reducible repeat refine xc_seq ?_
    with_reducible refine xc_region ?_
    refine xo_mv rfl rfl rfl ?_
    refine xo_mv rfl rfl rfl ?_
    refine xo_callB (fs := []) rfl rfl rfl eg rfl (fun w1 hw1 => hp y w1 hw1.kx) ?_
    refine xo_notOp rfl rfl rfl ?_
    with_reducible refine xo_nil ?_
    with_reducible repeat (first | refine xq_then ?_ | refine xq_blockN ?_ | refine xq_scopeN ?_)
    with_reducible repeat refine xc_seq ?_
    refine xc_cond rfl (fun h2 => ?_) (fun h2 => ?_)
    · rw [if_pos h2] at hsf
      with_reducible repeat refine xc_seq ?_
      with_reducible refine xc_region ?_
      refine xo_mv rfl rfl rfl ?_
      refine xo_mv rfl rfl rfl ?_
      refine xo_mv rfl rfl rfl ?_
      refine xo_ia T_ rfl rfl rfl rfl rfl ⟨by omega, by omega⟩ rfl ?_
      refine xo_storeO T_ rfl rfl rfl rfl (by repeat (first | exact List.Mem.head _ | apply List.Mem.tail | apply List.mem_append_right)) rfl rfl (by simp [szN]; omega) (by repeat (first | exact Upd.head | apply Upd.tail | apply Upd.app)) rfl ?_
      with_reducible refine xo_nil ?_
      with_reducible repeat (first | refine xq_then ?_ | refine xq_blockN ?_ | refine xq_scopeN ?_)
      with_reducible repeat refine xc_seq ?_
      with_reducible refine xc_region ?_
      refine xo_mv rfl rfl rfl ?_
      refine xo_add rfl rfl rfl (by omega) rfl ?_
      refine xo_asg rfl rfl rfl ?_
      with_reducible refine xo_nil ?_
      with_reducible repeat (first | refine xq_then ?_ | refine xq_blockN ?_ | refine xq_scopeN ?_)
      with_reducible repeat refine xc_seq ?_
      with_reducible refine xc_region ?_
      refine xo_mv rfl rfl rfl ?_
      refine xo_add rfl rfl rfl (by omega) rfl ?_
      refine xo_asg rfl rfl rfl ?_
      with_reducible refine xo_nil ?_
      with_reducible repeat (first | refine xq_then ?_ | refine xq_blockN ?_ | refine xq_scopeN ?_)
      refine xq_again _ _ _ _ _ (j + 1, ys.set fl.length y) ?_ (by first | omega | (simp only; omega)) ?_ ?_
      · simp only [hsf, List.length_append, List.length_cons, List.length_nil, List.length_set]
        refine ⟨hjl, by omega, hyl, ?_, ?_⟩
        · rw [List.take_succ_eq_append_getElem (by simp; omega)]
          simp only [List.getElem_set_self, List.take_set_of_le (Nat.le_refl _), hyt, Nat.zero_add]
        · rw [List.drop_set_of_lt (by omega)]; exact hyd2
      · show subS [(0, _), (1, _), (5, .int .i64 (((xs.take (j + 1)).filter fun x => !p x).length : Int)), (6, _)] _
        rw [hsf, List.length_append]
        exact ⟨rfl, rfl, rfl, rfl, trivial⟩
      · have e3 : ((fl.length : Nat) : Int).toNat * szN 0 = fl.length := by simp [szN]
        simp only [List.map_set, e3]
        exact List.Sublist.refl _
    · have h2' : (!p y) = false := h2
      rw [h2'] at hsf
      simp only [Bool.false_eq_true, ↓reduceIte, List.append_nil] at hsf
      with_reducible refine xc_skip ?_
      with_reducible repeat (first | refine xq_then ?_ | refine xq_blockN ?_ | refine xq_scopeN ?_)
      with_reducible repeat refine xc_seq ?_
      with_reducible refine xc_region ?_
      refine xo_mv rfl rfl rfl ?_
      refine xo_add rfl rfl rfl (by omega) rfl ?_
      refine xo_asg rfl rfl rfl ?_
      with_reducible refine xo_nil ?_
      with_reducible repeat (first | refine xq_then ?_ | refine xq_blockN ?_ | refine xq_scopeN ?_)
      refine xq_again _ _ _ _ _ (j + 1, ys) ?_ (by first | omega | (simp only; omega)) ?_ (List.Sublist.refl _)
      · simp only [hsf]
        exact ⟨hjl, by omega, hyl, hyt, hyd2⟩
      · show subS [(0, _), (1, _), (5, .int .i64 (((xs.take (j + 1)).filter fun x => !p x).length : Int)), (6, _)] _
        rw [hsf]
        exact ⟨rfl, rfl, rfl, rfl, trivial⟩
  · have hge : j = xs.length := by have := of_decide_eq_false h; omega
    subst hge
    rw [List.take_length] at *
    have hfl : (xs.filter fun x => !p x).length ≤ xs.length := List.length_filter_le _ _
    with_reducible refine xc_exit ?_
    with_reducible repeat (first | refine xq_blockX ?_ | refine xq_thenE ?_ | refine xq_blockE rfl ?_ | refine xq_scopeE ?_)
    with_reducible repeat (first | refine xq_then ?_ | refine xq_blockN ?_ | refine xq_scopeN ?_)
    with_reducible repeat refine xc_seq ?_
    with_reducible refine xc_region ?_
    refine xo_mv rfl rfl rfl ?_
    refine xo_mv rfl rfl rfl ?_
    refine xo_sliceLo T_ rfl rfl rfl rfl rfl (by omega) (by omega) rfl ?_
    refine xo_clear (m := xs.length) (i := (xs.filter fun x => !p x).length) T_ rfl rfl rfl rfl rfl rfl (by omega) (by omega) (by repeat (first | exact List.Mem.head _ | apply List.Mem.tail | apply List.mem_append_right)) (by repeat (first | exact Upd.head | apply Upd.tail | apply Upd.app)) rfl ?_
    with_reducible refine xo_nil ?_
    with_reducible repeat (first | refine xq_then ?_ | refine xq_blockN ?_ | refine xq_scopeN ?_)
    with_reducible repeat refine xc_seq ?_
    with_reducible refine xc_region ?_
    refine xo_mv rfl rfl rfl ?_
    refine xo_mv rfl rfl rfl ?_
    refine xo_sliceHi T_ rfl rfl rfl rfl rfl (by omega) rfl ?_
    refine xo_asg rfl rfl rfl ?_
    with_reducible refine xo_nil ?_
    with_reducible repeat (first | refine xq_then ?_ | refine xq_blockN ?_ | refine xq_scopeN ?_)
    with_reducible repeat refine xc_seq ?_
    with_reducible refine xc_ret ?_
    with_reducible repeat (first | refine xq_thenR ?_ | refine xq_blockR ?_ | refine xq_scopeR ?_)
    refine xq_ret1 rfl rfl fun w' hw => ⟨rfl, hw.kx, ?_⟩
    obtain ⟨o', h5, h6⟩ := hw.bl _ (List.Mem.head _)
    refine ⟨o', h5, ?_⟩
    have : (ys.map (Value.int .i64)).take (xs.filter fun x => !p x).length = (xs.filter fun x => !p x).map (.int .i64) := by rw [← List.map_take, hyt]
    rw [← this]
    exact h6
end Go.Proofs.Ytcmepdamemnbkaa
