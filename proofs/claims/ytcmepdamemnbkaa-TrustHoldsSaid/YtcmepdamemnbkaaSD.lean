/- SX: a region that draws its order, each of whose operations answers the same whatever has been done beside it. No program in sight. -/
import Derived.Test.YtcmepdamemnbkaaSR
namespace Go.Proofs.Ytcmepdamemnbkaa
open Go.RowKit
set_option linter.unusedVariables false
set_option linter.unusedSimpArgs false
def depOf (o : Oper) : List Nat := o.after.toList.map (·.on)
def dstv (ops : List Oper) (vs : List Value) (j : Nat) : Slots :=
  match nthD j ops, nth j vs with
  | some d, some v => [(d, v)]
  | _, _ => []
def flatS (ops : List Oper) (vs : List Value) : List Nat → Slots → Slots
  | [], σ => σ
  | j :: L, σ => dstv ops vs j ++ flatS ops vs L σ
theorem slot_app (k : Nat) : ∀ A B : Slots, slot k (A ++ B) = match slot k A with | some u => some u | none => slot k B
  | [], B => rfl
  | p :: A, B => by
    simp only [List.cons_append, slot]
    cases Nat.beq p.1 k with
    | true => rfl
    | false => exact slot_app k A B
theorem slot_dstv {ops : List Oper} {vs : List Value} {j k : Nat} {u : Value} : slot k (dstv ops vs j) = some u ↔ nthD j ops = some k ∧ nth j vs = some u := by
  unfold dstv
  cases h1 : nthD j ops with
  | none => simp [slot]
  | some d =>
    cases h2 : nth j vs with
    | none => simp [slot]
    | some v =>
      simp only [slot]
      cases hb : Nat.beq d k with
      | true =>
        have := Nat.eq_of_beq_eq_true hb
        subst this
        simp
      | false =>
        have : d ≠ k := fun e => by subst e; simp at hb
        simp [this]
theorem flat_a {ops : List Oper} {vs : List Value} {k : Nat} {u : Value} {σ : Slots} : ∀ L : List Nat, slot k (flatS ops vs L σ) = some u → (∃ j ∈ L, nthD j ops = some k ∧ nth j vs = some u) ∨ slot k σ = some u
  | [], h => .inr h
  | j :: L, h => by
    unfold flatS at h
    rw [slot_app] at h
    cases hd : slot k (dstv ops vs j) with
    | some v =>
      rw [hd] at h
      cases h
      exact .inl ⟨j, List.mem_cons_self .., slot_dstv.1 hd⟩
    | none =>
      rw [hd] at h
      rcases flat_a L h with ⟨i, hi, h'⟩ | h'
      · exact .inl ⟨i, List.mem_cons_of_mem _ hi, h'⟩
      · exact .inr h'
theorem flat_b {ops : List Oper} {vs : List Value} {σ : Slots} (hdis : ∀ i j k, nthD i ops = some k → nthD j ops = some k → i = j) {k j : Nat} {u : Value} (h1 : nthD j ops = some k) (h2 : nth j vs = some u) : ∀ L : List Nat, j ∈ L → slot k (flatS ops vs L σ) = some u
  | [], h => by cases h
  | i :: L, h => by
    unfold flatS
    rw [slot_app]
    cases hd : slot k (dstv ops vs i) with
    | some v =>
      obtain ⟨h3, h4⟩ := slot_dstv.1 hd
      have := hdis i j k h3 h1
      subst this
      rw [h2] at h4
      exact h4.symm ▸ rfl
    | none =>
      rcases List.mem_cons.1 h with rfl | h
      · rw [slot_dstv.2 ⟨h1, h2⟩] at hd
        cases hd
      · exact flat_b hdis h1 h2 L h
theorem flat_c {ops : List Oper} {vs : List Value} {σ : Slots} {k : Nat} (hk : ∀ j, nthD j ops ≠ some k) : ∀ L : List Nat, slot k (flatS ops vs L σ) = slot k σ
  | [] => rfl
  | i :: L => by
    unfold flatS
    rw [slot_app]
    cases hd : slot k (dstv ops vs i) with
    | some v => exact absurd (slot_dstv.1 hd).1 (hk i)
    | none => exact flat_c hk L
theorem SOK.le {N : Nat} {ds : List Deferred} {σ σ' : Slots} {a : Act} (h : SOK N ds σ a) (hs : ∀ k u, slot k σ' = some u → slot k σ = some u) : SOK N ds σ' a := ⟨h.sz, fun i v e => h.sl i v (hs i v e), h.df⟩
/-- the post of one operation -/
def OnePost (N : Nat) (ds : List Deferred) (w0 : World) (X : Nat → Prop) (η : Hp) (σ : Slots) : Exit → Act → World → Prop
  | .normal, a, w => SOK N ds σ a ∧ WOK w0 X η w
  | _, _, _ => False
theorem wpIn_swap {F : Fence} {n : Nat} {P : Program} {o : Oper} {a : Act} {w : World} {K : Act → World → Prop} {N : Nat} {ds : List Deferred} {w0 : World} {X : Nat → Prop} {η : Hp} {σ : Slots} {Q : Exit → Act → World → Prop}
    (h : o.wpIn F n P a w K (OnePost N ds w0 X η σ)) : o.wpIn F n P a w K Q := by
  unfold Oper.wpIn at *
  refine ⟨h.1, ?_⟩
  have hh := h.2
  generalize (o.semAt F.round a.eval).run P w = r at *
  cases r with
  | ok x w' =>
    cases x <;> simp only [Oper.uponIn] at hh ⊢ <;>
      first
        | exact hh
        | exact ⟨hh.1, CallsIn.mono hh.2 (fun e w'' he => by
            cases e with
            | returned v => exact he
            | panicked c => exact he.elim
            | outgrown => obtain ⟨_, _, h3⟩ := he; exact h3.elim)⟩
        | exact ⟨hh.1, RoundIn.mono hh.2 (fun e w'' he => by
            cases e with
            | returned v => exact he
            | panicked c => exact he.elim
            | outgrown => obtain ⟨_, _, h3⟩ := he; exact h3.elim)⟩
  | halt x w' => cases x <;> simp only [Oper.uponIn] at hh ⊢ <;> first | exact hh | exact hh.elim
section
variable {P : Program} {ro : Option Nat} {n N : Nat} {ds : List Deferred} {w0 : World} {X : Nat → Prop} {Q : Exit → Act → World → Prop} {σ : Slots} {η : Hp}
/-- each operation, by itself: over what those told it that it waits for -/
def DrawOps (P : Program) (ro : Option Nat) (n N : Nat) (ds : List Deferred) (w0 : World) (X : Nat → Prop) (ops : List Oper) (vs : List Value) (σ : Slots) (η : Hp) : List Oper → List Value → Prop
  | o :: r, v :: vr => (∀ τ, XO P ro n N ds w0 X (OnePost N ds w0 X η (putS o.dst v (flatS ops vs (depOf o) σ ++ τ))) ops (flatS ops vs (depOf o) σ ++ τ) η [o]) ∧ DrawOps P ro n N ds w0 X ops vs σ η r vr
  | _, _ => True
theorem drawOps_get {ops : List Oper} {vs : List Value} : ∀ (l : List Oper) (vl : List Value) (i : Nat) (o : Oper) (v : Value), DrawOps P ro n N ds w0 X ops vs σ η l vl → l[i]? = some o → nth i vl = some v →
    ∀ τ, XO P ro n N ds w0 X (OnePost N ds w0 X η (putS o.dst v (flatS ops vs (depOf o) σ ++ τ))) ops (flatS ops vs (depOf o) σ ++ τ) η [o]
  | [], _, i, o, v, _, h, _ => by simp at h
  | x :: r, [], i, o, v, _, _, h => by simp [nth] at h
  | x :: r, y :: vr, 0, o, v, h, h1, h2 => by
    simp [nth] at h1 h2
    subst h1 h2
    exact h.1
  | x :: r, y :: vr, i + 1, o, v, h, h1, h2 => drawOps_get r vr i o v h.2 (by simpa using h1) (by simpa [nth] using h2)
def dstsOf_ (ops : List Oper) : List Tmp := ops.filterMap (·.dst)
def freshB (σ : Slots) : List Tmp → Bool
  | [] => true
  | d :: r => (match slot d σ with | none => true | some _ => false) && freshB σ r
def distB : List Tmp → Bool
  | [] => true
  | d :: r => !(r.any fun x => Nat.beq d x) && distB r
def depsB : Nat → List Oper → Bool
  | _, [] => true
  | i, o :: r => (depOf o).all (fun j => Nat.blt j i) && depsB (i + 1) r
theorem depsB_get : ∀ (l : List Oper) (i k : Nat) (o : Oper), depsB i l = true → l[k]? = some o → ∀ j ∈ depOf o, j < i + k
  | [], i, k, o, _, h => by simp at h
  | x :: r, i, 0, o, h, h1 => by
    simp at h1
    subst h1
    simp only [depsB, Bool.and_eq_true, List.all_eq_true, Nat.blt_eq] at h
    intro j hj
    simpa using h.1 j hj
  | x :: r, i, k + 1, o, h, h1 => by
    simp only [depsB, Bool.and_eq_true] at h
    intro j hj
    have := depsB_get r (i + 1) k o h.2 (by simpa using h1) j hj
    omega
theorem distB_get : ∀ (l : List Oper) (i j k : Nat), distB (dstsOf_ l) = true → nthD i l = some k → nthD j l = some k → i = j
  | [], i, j, k, _, h, _ => by simp [nthD] at h
  | x :: r, 0, 0, k, _, _, _ => rfl
  | x :: r, 0, j + 1, k, hd, h1, h2 => by
    simp only [nthD] at h1 h2
    simp only [dstsOf_, List.filterMap_cons, h1, distB, Bool.and_eq_true, Bool.not_eq_true', List.any_eq_false] at hd
    rw [nthD_eq] at h2
    obtain ⟨o, ho, ho2⟩ := Option.bind_eq_some_iff.1 h2
    have := hd.1 k (List.mem_filterMap.2 ⟨o, List.mem_of_getElem? ho, ho2⟩)
    simp at this
  | x :: r, i + 1, 0, k, hd, h1, h2 => by
    simp only [nthD] at h1 h2
    simp only [dstsOf_, List.filterMap_cons, h2, distB, Bool.and_eq_true, Bool.not_eq_true', List.any_eq_false] at hd
    rw [nthD_eq] at h1
    obtain ⟨o, ho, ho2⟩ := Option.bind_eq_some_iff.1 h1
    have := hd.1 k (List.mem_filterMap.2 ⟨o, List.mem_of_getElem? ho, ho2⟩)
    simp at this
  | x :: r, i + 1, j + 1, k, hd, h1, h2 => by
    simp only [nthD] at h1 h2
    have hd' : distB (dstsOf_ r) = true := by
      simp only [dstsOf_, List.filterMap_cons] at hd ⊢
      cases hx : x.dst with
      | none => rw [hx] at hd; exact hd
      | some d => rw [hx] at hd; simp only [distB, Bool.and_eq_true] at hd; exact hd.2
    rw [distB_get r i j k hd' h1 h2]
theorem freshB_get : ∀ (l : List Tmp) (d : Tmp), freshB σ l = true → d ∈ l → slot d σ = none
  | [], d, _, h => by cases h
  | x :: r, d, h, hm => by
    simp only [freshB, Bool.and_eq_true] at h
    rcases List.mem_cons.1 hm with rfl | hm
    · have := h.1
      split at this
      · assumption
      · cases this
    · exact freshB_get r d h.2 hm
theorem filter_less {l : List Nat} {p q : Nat → Bool} (h : ∀ j ∈ l, q j = true → p j = true) {i : Nat} (hi : i ∈ l) (hp : p i = true) (hq : q i = false) : (l.filter q).length < (l.filter p).length := by
  induction l with
  | nil => cases hi
  | cons x r ih =>
    have hle : ∀ l : List Nat, (∀ j ∈ l, q j = true → p j = true) → (l.filter q).length ≤ (l.filter p).length := by
      intro l
      induction l with
      | nil => intro _; simp
      | cons y r ih =>
        intro h
        have := ih (fun j hj => h j (List.mem_cons_of_mem _ hj))
        have h1 := h y (List.mem_cons_self ..)
        cases hqy : q y <;> cases hpy : p y <;> simp_all
        omega
    rcases List.mem_cons.1 hi with rfl | hi
    · have := hle r (fun j hj => h j (List.mem_cons_of_mem _ hj))
      simp only [List.filter_cons, hp, hq, ↓reduceIte, Bool.false_eq_true, List.length_cons]
      omega
    · have := ih (fun j hj => h j (List.mem_cons_of_mem _ hj)) hi
      have h1 := h x (List.mem_cons_self ..)
      cases hqy : q x <;> cases hpy : p x <;> simp_all
      omega
theorem xc_draw {id : Nat} {ops : List Oper} (vs : List Value) (hmix : P.follows .mixedOrders = true) (hlen : Nat.beq vs.length ops.length = true) (hbind : ops.all (fun o => o.after.toList.all (Region.binds .any)) = true) (hdeps : depsB 0 ops = true) (hdist : distB (dstsOf_ ops) = true) (hfresh : freshB σ (dstsOf_ ops) = true)
    (hop : DrawOps P ro n N ds w0 X ops vs σ η ops vs) (hQ : XQ N ds w0 X Q .normal (flatS ops vs (List.range ops.length) σ) η) : XC P ro n N ds w0 X Q σ η (.region id ops.toArray true) := by
  have hl := Nat.eq_of_beq_eq_true hlen
  have hdis := fun i j k => distB_get ops i j k hdist
  have hfr : ∀ j d, nthD j ops = some d → slot d σ = none := fun j d h => by
    rw [nthD_eq] at h
    obtain ⟨o, ho, ho2⟩ := Option.bind_eq_some_iff.1 h
    exact freshB_get _ d hfresh (List.mem_filterMap.2 ⟨o, List.mem_of_getElem? ho, ho2⟩)
  have hnot : ∀ k u, slot k σ = some u → ∀ j, nthD j ops ≠ some k := fun k u h j e => by rw [hfr j k e] at h; cases h
  -- those of some are those of more
  have hmore : ∀ L M : List Nat, (∀ j ∈ L, j ∈ M) → ∀ k u, slot k (flatS ops vs L σ) = some u → slot k (flatS ops vs M σ) = some u := by
    intro L M h k u hk
    rcases flat_a L hk with ⟨j, hj, h1, h2⟩ | h1
    · exact flat_b hdis h1 h2 M (h j hj)
    · rw [flat_c (hnot k u h1) M]; exact h1
  intro a w ha hw
  refine wpIn_region_any hmix ?_
  have key : ∀ (fuel : Nat) (L : List Nat) (listed : Array Bool) (a : Act) (w : World), listed.size = ops.length → (∀ j, listed.getD j false = true ↔ j ∈ L) → (∀ j ∈ L, j < ops.length) → ((List.range ops.length).filter fun j => !listed.getD j false).length ≤ fuel → SOK N ds (flatS ops vs L σ) a → WOK w0 X η w →
      wpAnyIn (wideR ro) n P .any ops.toArray Q fuel listed a w := by
    intro fuel
    induction fuel with
    | zero =>
      intro L listed a w hsz hL hLb hcnt ha hw
      have hall : ∀ j, j < ops.length → j ∈ L := by
        intro j hj
        have h0 := List.length_eq_zero_iff.1 (Nat.le_zero.1 hcnt)
        rw [List.filter_eq_nil_iff] at h0
        have := h0 j (List.mem_range.2 hj)
        exact (hL j).1 (by simpa using this)
      refine ⟨?_, hQ a w (ha.le (hmore _ _ (fun j hj => hall j (List.mem_range.1 hj)))) hw⟩
      apply List.eq_nil_iff_forall_not_mem.2
      intro j hj
      obtain ⟨h1, o, h2, _⟩ := mem_ready.1 hj
      have hlt : j < ops.length := by have := (Array.getElem?_eq_some_iff.1 h2).1; simpa using this
      have h3 := (hL j).2 (hall j hlt)
      rw [Array.getD_eq_getD_getElem?] at h1 h3
      rw [Array.getElem?_eq_getElem (by rw [hsz]; exact hlt)] at h1 h3
      simp at h1 h3
      rw [h1] at h3
      cases h3
    | succ fuel ih =>
      intro L listed a w hsz hL hLb hcnt ha hw
      refine ⟨fun hnil => ?_, fun i hi => ?_⟩
      · -- nothing is ready: all are listed
        have hall : ∀ k j, j ≤ k → j < ops.length → j ∈ L := by
          intro k
          induction k with
          | zero =>
            intro j hj hlt
            by_cases hm : j ∈ L
            · exact hm
            · exfalso
              have : j ∈ Region.ready .any ops.toArray listed := by
                refine mem_ready.2 ⟨?_, ops[j], by simp [List.getElem?_eq_getElem hlt], ?_⟩
                · have h3 : listed.getD j false ≠ true := fun q => hm ((hL j).1 q)
                  rw [Array.getD_eq_getD_getElem?, Array.getElem?_eq_getElem (by rw [hsz]; exact hlt)] at h3 ⊢
                  simpa using h3
                · intro e he _
                  have h4 := depsB_get ops 0 j ops[j] hdeps (List.getElem?_eq_getElem hlt) e.on (List.mem_map.2 ⟨e, by simpa using he, rfl⟩)
                  omega
              rw [hnil] at this
              cases this
          | succ k ihk =>
            intro j hj hlt
            by_cases hjk : j ≤ k
            · exact ihk j hjk hlt
            by_cases hm : j ∈ L
            · exact hm
            · exfalso
              have : j ∈ Region.ready .any ops.toArray listed := by
                refine mem_ready.2 ⟨?_, ops[j], by simp [List.getElem?_eq_getElem hlt], ?_⟩
                · have h3 : listed.getD j false ≠ true := fun q => hm ((hL j).1 q)
                  rw [Array.getD_eq_getD_getElem?, Array.getElem?_eq_getElem (by rw [hsz]; exact hlt)] at h3 ⊢
                  simpa using h3
                · intro e he _
                  have h4 := depsB_get ops 0 j ops[j] hdeps (List.getElem?_eq_getElem hlt) e.on (List.mem_map.2 ⟨e, by simpa using he, rfl⟩)
                  exact (hL e.on).2 (ihk e.on (by omega) (by omega))
              rw [hnil] at this
              cases this
        exact hQ a w (ha.le (hmore _ _ (fun j hj => hall j j (Nat.le_refl _) (List.mem_range.1 hj)))) hw
      · obtain ⟨h1, o, h2, h3⟩ := mem_ready.1 hi
        have hlt : i < ops.length := by have := (Array.getElem?_eq_some_iff.1 h2).1; simpa using this
        have ho : ops[i]? = some o := by simpa using h2
        have hio : i < vs.length := by rw [hl]; exact hlt
        have hv : nth i vs = some vs[i] := by rw [nth_eq, List.getElem?_eq_getElem hio]
        generalize vs[i] = v at hv
        have hnl : ¬ i ∈ L := fun q => by
          have h4 := (hL i).2 q
          rw [Array.getD_eq_getD_getElem?, Array.getElem?_eq_getElem (by rw [hsz]; exact hlt)] at h1 h4
          simp at h1 h4
          rw [h1] at h4
          cases h4
        have hdL : ∀ j ∈ depOf o, j ∈ L := by
          intro j hj
          obtain ⟨e, he, rfl⟩ := List.mem_map.1 hj
          have hb := List.all_eq_true.1 hbind o (List.mem_of_getElem? ho)
          exact (hL e.on).1 (h3 e (by simpa using he) (List.all_eq_true.1 hb e he))
        have hcons := hmore (depOf o) L hdL
        have hs : SOK N ds (flatS ops vs (depOf o) σ ++ flatS ops vs L σ) a := ha.le fun k u hk => by
          rw [slot_app] at hk
          cases hd : slot k (flatS ops vs (depOf o) σ) with
          | some x => rw [hd] at hk; cases hk; exact hcons k _ hd
          | none => rw [hd] at hk; exact hk
        have hrun := drawOps_get ops vs i o v hop ho hv (flatS ops vs L σ) a w hs hw
        have hnext : ∀ a' w', OnePost N ds w0 X η (putS o.dst v (flatS ops vs (depOf o) σ ++ flatS ops vs L σ)) .normal a' w' → wpAnyIn (wideR ro) n P .any ops.toArray Q fuel (listed.setIfInBounds i true) a' w' := by
          rintro a' w' ⟨ha', hw'⟩
          refine ih (i :: L) _ a' w' (by simp [hsz]) ?_ ?_ ?_ (ha'.le ?_) hw'
          · intro j
            rw [Array.getD_eq_getD_getElem?]
            by_cases e : i = j
            · subst e
              rw [Array.getElem?_setIfInBounds_self, if_pos (by rw [hsz]; exact hlt)]
              simp
            · rw [Array.getElem?_setIfInBounds_ne e, ← Array.getD_eq_getD_getElem?, hL j]
              simp [show ¬ j = i from fun q => e q.symm]
          · intro j hj
            rcases List.mem_cons.1 hj with rfl | hj
            · exact hlt
            · exact hLb j hj
          · have : ((List.range ops.length).filter fun j => !(listed.setIfInBounds i true).getD j false).length < ((List.range ops.length).filter fun j => !listed.getD j false).length := by
              refine filter_less (i := i) ?_ (List.mem_range.2 hlt) ?_ ?_
              · intro j hj hq
                by_cases e : i = j
                · subst e
                  rw [Array.getD_eq_getD_getElem?, Array.getElem?_setIfInBounds_self, if_pos (by rw [hsz]; exact hlt)] at hq
                  simp at hq
                · rw [Array.getD_eq_getD_getElem?, Array.getElem?_setIfInBounds_ne e, ← Array.getD_eq_getD_getElem?] at hq
                  exact hq
              · have h4 : listed.getD i false ≠ true := fun q => hnl ((hL i).1 q)
                simpa using h4
              · rw [Array.getD_eq_getD_getElem?, Array.getElem?_setIfInBounds_self, if_pos (by rw [hsz]; exact hlt)]
                simp
            omega
          · intro k u hk
            unfold flatS at hk
            rw [slot_app] at hk
            cases hd : slot k (dstv ops vs i) with
            | some x =>
              rw [hd] at hk
              cases hk
              obtain ⟨h5, h6⟩ := slot_dstv.1 hd
              rw [hv] at h6
              cases h6
              rw [nthD_eq, ho] at h5
              simp only [Option.bind_some] at h5
              rw [h5]
              unfold putS slot
              simp
            | none =>
              rw [hd] at hk
              have h7 : slot k (flatS ops vs (depOf o) σ ++ flatS ops vs L σ) = some u := by
                rw [slot_app]
                cases hd2 : slot k (flatS ops vs (depOf o) σ) with
                | some x => have hk' : slot k (flatS ops vs L σ) = some u := hk; have := hcons k x hd2; rw [hk'] at this; exact this.symm
                | none => exact hk
              cases hdo : o.dst with
              | none => exact h7
              | some d =>
                unfold putS slot
                have hne : Nat.beq d k = false := by
                  cases hb : Nat.beq d k with
                  | false => rfl
                  | true =>
                    exfalso
                    have e := Nat.eq_of_beq_eq_true hb
                    subst e
                    rw [slot_dstv.2 ⟨by rw [nthD_eq, ho]; exact hdo, hv⟩] at hd
                    cases hd
                simp only [hne, cond_false]
                exact h7
        unfold wpOpIn
        simp only [h2]
        unfold wpListIn at hrun
        split at hrun
        · rename_i hw1
          rw [if_pos hw1]
          exact wpIn_swap (Oper.wpIn_mono (fun a' w' h => hnext a' w' h) hrun)
        · rename_i hw1
          rw [if_neg hw1]
          exact ⟨fun _ _ => trivial, hnext _ _ hrun.2⟩
  refine key _ [] _ a w.drew (by simp) (fun j => ?_) (fun j hj => by cases hj) ?_ ha hw.drew
  · constructor
    · intro h
      rw [Array.getD_eq_getD_getElem?, Array.getElem?_replicate] at h
      split at h <;> simp at h
    · intro h
      cases h
  · have := List.length_filter_le (fun j => !(Array.replicate ops.toArray.size false).getD j false) (List.range ops.length)
    simpa using this
end
end Go.Proofs.Ytcmepdamemnbkaa
