/- SX: a drawn region some of whose operations make blocks or write: their values and blocks are a ghost that the steps choose. No program in sight. / SX: rows of several cells an element, of the call's own: read, written, copied. No program in sight. / ref08.Twin: a copy of records, ways and all. / ref08.Twin: the walk. / law08.TrustHolds: the walk. / The library's own functions that the shelf's contract asks, where they lie in this program. / SX: shifts and single bits; rows of whatever cells, of a call's results. No program in sight. / SX: delete out of a map with whole-number keys. No program in sight. / SX: a range over an iterator of whole numbers that yields one of several lists (as a map's keys, in whatever order). No program in sight. / SX: a range over a map with whole-number keys. No program in sight. / slices.AppendSeq, Collect over an iterator that yields one of several lists. / maps.Keys over a set of whole numbers: an iterator that yields its members in some order. / slices.Sort, slices.Sorted over a set's keys: the members in rising order. / The library's own functions that the shelf's contract asks, where they lie in this program. / slices.Sort of a nil row; slices.Sorted over a set's keys. -/
import Derived.Test.YtcmepdamemnbkaaPkLawTrustRests5
import Derived.Test.YtcmepdamemnbkaaWWords
import Derived.Test.YtcmepdamemnbkaaPkLawTrustRests2
import Derived.Shelf.Sort.Plain
import Derived.Shelf.Lays
import Derived.Test.YtcmepdamemnbkaaPkLawTrustRests3
import Derived.Sort.OwnSortedInts
import Derived.Shelf.Small.Bits
namespace Go.Proofs.Ytcmepdamemnbkaa
open Go.RowKit
set_option linter.unusedVariables false
set_option linter.unusedSimpArgs false
def PostK (K : Act → World → Prop) : Exit → Act → World → Prop
  | .normal, a, w => K a w
  | _, _, _ => False
theorem wpIn_swapK {F : Fence} {n : Nat} {P : Program} {o : Oper} {a : Act} {w : World} {K K' : Act → World → Prop} {Q : Exit → Act → World → Prop}
    (h : o.wpIn F n P a w K (PostK K')) : o.wpIn F n P a w K Q := by
  unfold Oper.wpIn at *
  refine ⟨h.1, ?_⟩
  have hh := h.2
  generalize (o.semAt F.round a.eval).run P w = r at *
  cases r with
  | ok x w' =>
    cases x <;> simp only [Oper.uponIn] at hh ⊢ <;>
      first
        | exact hh
        | exact ⟨hh.1, CallsIn.mono hh.2 (fun e w'' he => by
            cases e with
            | returned v => exact he
            | panicked c => exact he.elim
            | outgrown => obtain ⟨_, _, h3⟩ := he; exact h3.elim)⟩
        | exact ⟨hh.1, RoundIn.mono hh.2 (fun e w'' he => by
            cases e with
            | returned v => exact he
            | panicked c => exact he.elim
            | outgrown => obtain ⟨_, _, h3⟩ := he; exact h3.elim)⟩
  | halt x w' => cases x <;> simp only [Oper.uponIn] at hh ⊢ <;> first | exact hh | exact hh.elim
section
variable {P : Program} {ro : Option Nat} {n N : Nat} {ds : List Deferred} {w0 : World} {X : Nat → Prop} {Q : Exit → Act → World → Prop} {σ : Slots} {η : Hp}
def GPost {γ : Type} (N : Nat) (ds : List Deferred) (w0 : World) (X : Nat → Prop) (ops : List Oper) (vs : γ → List Value) (H : γ → Hp) (Ok : List Nat → γ → Prop) (i : Nat) (L : List Nat) (g : γ) (d : Option Tmp) (σ : Slots) : Act → World → Prop := fun a w =>
  ∃ g', Ok (i :: L) g' ∧ (∀ j ∈ L, nth j (vs g') = nth j (vs g)) ∧ (∃ v, nth i (vs g') = some v ∧ SOK N ds (putS d v σ) a) ∧ WOK w0 X (H g') w
def DrawG {γ : Type} (P : Program) (ro : Option Nat) (n N : Nat) (ds : List Deferred) (w0 : World) (X : Nat → Prop) (ops : List Oper) (vs : γ → List Value) (H : γ → Hp) (Ok : List Nat → γ → Prop) (σ : Slots) : Nat → List Oper → Prop
  | _, [] => True
  | i, o :: r => (∀ L g, Ok L g → i ∉ L → (∀ j ∈ depOf o, j ∈ L) → ∀ τ, XO P ro n N ds w0 X (PostK (GPost N ds w0 X ops vs H Ok i L g o.dst (flatS ops (vs g) (depOf o) σ ++ τ))) ops (flatS ops (vs g) (depOf o) σ ++ τ) (H g) [o]) ∧ DrawG P ro n N ds w0 X ops vs H Ok σ (i + 1) r
theorem drawG_get {γ : Type} {ops : List Oper} {vs : γ → List Value} {H : γ → Hp} {Ok : List Nat → γ → Prop} : ∀ (l : List Oper) (k i : Nat) (o : Oper), DrawG P ro n N ds w0 X ops vs H Ok σ k l → l[i]? = some o →
    ∀ L g, Ok L g → k + i ∉ L → (∀ j ∈ depOf o, j ∈ L) → ∀ τ, XO P ro n N ds w0 X (PostK (GPost N ds w0 X ops vs H Ok (k + i) L g o.dst (flatS ops (vs g) (depOf o) σ ++ τ))) ops (flatS ops (vs g) (depOf o) σ ++ τ) (H g) [o]
  | [], k, i, o, _, h => by simp at h
  | x :: r, k, 0, o, h, h1 => by
    simp at h1
    subst h1
    exact h.1
  | x :: r, k, i + 1, o, h, h1 => by
    have := drawG_get r (k + 1) i o h.2 (by simpa using h1)
    rw [show k + 1 + i = k + (i + 1) by omega] at this
    exact this
theorem DrawG.nil {γ : Type} {ops : List Oper} {vs : γ → List Value} {H : γ → Hp} {Ok : List Nat → γ → Prop} {i : Nat} : DrawG P ro n N ds w0 X ops vs H Ok σ i [] := trivial
theorem DrawG.cons {γ : Type} {ops : List Oper} {vs : γ → List Value} {H : γ → Hp} {Ok : List Nat → γ → Prop} {i : Nat} {o : Oper} {r : List Oper} (h : ∀ L g, Ok L g → i ∉ L → (∀ j ∈ depOf o, j ∈ L) → ∀ τ, XO P ro n N ds w0 X (PostK (GPost N ds w0 X ops vs H Ok i L g o.dst (flatS ops (vs g) (depOf o) σ ++ τ))) ops (flatS ops (vs g) (depOf o) σ ++ τ) (H g) [o])
    (t : DrawG P ro n N ds w0 X ops vs H Ok σ (i + 1) r) : DrawG P ro n N ds w0 X ops vs H Ok σ i (o :: r) := ⟨h, t⟩
/-- an operation that makes and writes nothing -/
theorem DrawG.pure {γ : Type} {ops : List Oper} {vs : γ → List Value} {H : γ → Hp} {Ok : List Nat → γ → Prop} {i : Nat} {o : Oper} {r : List Oper} (hk : ∀ L g, Ok L g → Ok (i :: L) g)
    (h : ∀ L g, Ok L g → i ∉ L → (∀ j ∈ depOf o, j ∈ L) → ∀ τ, ∃ v, nth i (vs g) = some v ∧ XO P ro n N ds w0 X (OnePost N ds w0 X (H g) (putS o.dst v (flatS ops (vs g) (depOf o) σ ++ τ))) ops (flatS ops (vs g) (depOf o) σ ++ τ) (H g) [o])
    (t : DrawG P ro n N ds w0 X ops vs H Ok σ (i + 1) r) : DrawG P ro n N ds w0 X ops vs H Ok σ i (o :: r) := by
  refine ⟨fun L g hg hi hd τ => ?_, t⟩
  obtain ⟨v, hv, hx⟩ := h L g hg hi hd τ
  intro a w ha hw
  have hr := hx a w ha hw
  unfold wpListIn at hr ⊢
  split at hr
  · rename_i hw1
    rw [if_pos hw1]
    exact wpIn_swap (Oper.wpIn_mono (fun a' w' h' => show wpListIn _ _ _ _ _ [] a' w' from ⟨g, hk L g hg, fun _ _ => rfl, ⟨v, hv, h'.1⟩, h'.2⟩) hr)
  · rename_i hw1
    rw [if_neg hw1]
    exact ⟨fun _ _ => trivial, ⟨g, hk L g hg, fun _ _ => rfl, ⟨v, hv, hr.2.1⟩, hr.2.2⟩⟩
theorem xc_drawG {γ : Type} {id : Nat} {ops : List Oper} (vs : γ → List Value) (H : γ → Hp) (Ok : List Nat → γ → Prop) (g0 : γ) (hOk0 : Ok [] g0) (hH0 : H g0 = η) (hlv : ∀ g, (vs g).length = ops.length) (hmix : P.follows .mixedOrders = true) (hbind : ops.all (fun o => o.after.toList.all (Region.binds .any)) = true) (hdeps : depsB 0 ops = true) (hdist : distB (dstsOf_ ops) = true) (hfresh : freshB σ (dstsOf_ ops) = true)
    (hop : DrawG P ro n N ds w0 X ops vs H Ok σ 0 ops) (hQ : ∀ L g, Ok L g → (∀ j, j < ops.length → j ∈ L) → XQ N ds w0 X Q .normal (flatS ops (vs g) (List.range ops.length) σ) (H g)) : XC P ro n N ds w0 X Q σ η (.region id ops.toArray true) := by
  have hdis := fun i j k => distB_get ops i j k hdist
  have hfr : ∀ j d, nthD j ops = some d → slot d σ = none := fun j d h => by
    rw [nthD_eq] at h
    obtain ⟨o, ho, ho2⟩ := Option.bind_eq_some_iff.1 h
    exact freshB_get _ d hfresh (List.mem_filterMap.2 ⟨o, List.mem_of_getElem? ho, ho2⟩)
  have hnot : ∀ k u, slot k σ = some u → ∀ j, nthD j ops ≠ some k := fun k u h j e => by rw [hfr j k e] at h; cases h
  -- those of some are those of more
  have hmore : ∀ (g : γ) (L M : List Nat), (∀ j ∈ L, j ∈ M) → ∀ k u, slot k (flatS ops (vs g) L σ) = some u → slot k (flatS ops (vs g) M σ) = some u := by
    intro g L M h k u hk
    rcases flat_a L hk with ⟨j, hj, h1, h2⟩ | h1
    · exact flat_b hdis h1 h2 M (h j hj)
    · rw [flat_c (hnot k u h1) M]; exact h1
  intro a w ha hw
  refine wpIn_region_any hmix ?_
  have key : ∀ (fuel : Nat) (L : List Nat) (listed : Array Bool) (a : Act) (w : World), listed.size = ops.length → (∀ j, listed.getD j false = true ↔ j ∈ L) → (∀ j ∈ L, j < ops.length) → ((List.range ops.length).filter fun j => !listed.getD j false).length ≤ fuel → ∀ g, Ok L g → SOK N ds (flatS ops (vs g) L σ) a → WOK w0 X (H g) w →
      wpAnyIn (wideR ro) n P .any ops.toArray Q fuel listed a w := by
    intro fuel
    induction fuel with
    | zero =>
      intro L listed a w hsz hL hLb hcnt g hOk ha hw
      have hall : ∀ j, j < ops.length → j ∈ L := by
        intro j hj
        have h0 := List.length_eq_zero_iff.1 (Nat.le_zero.1 hcnt)
        rw [List.filter_eq_nil_iff] at h0
        have := h0 j (List.mem_range.2 hj)
        exact (hL j).1 (by simpa using this)
      refine ⟨?_, hQ L g hOk hall a w (ha.le (hmore g _ _ (fun j hj => hall j (List.mem_range.1 hj)))) hw⟩
      apply List.eq_nil_iff_forall_not_mem.2
      intro j hj
      obtain ⟨h1, o, h2, _⟩ := mem_ready.1 hj
      have hlt : j < ops.length := by have := (Array.getElem?_eq_some_iff.1 h2).1; simpa using this
      have h3 := (hL j).2 (hall j hlt)
      rw [Array.getD_eq_getD_getElem?] at h1 h3
      rw [Array.getElem?_eq_getElem (by rw [hsz]; exact hlt)] at h1 h3
      simp at h1 h3
      rw [h1] at h3
      cases h3
    | succ fuel ih =>
      intro L listed a w hsz hL hLb hcnt g hOk ha hw
      refine ⟨fun hnil => ?_, fun i hi => ?_⟩
      · -- nothing is ready: all are listed
        have hall : ∀ k j, j ≤ k → j < ops.length → j ∈ L := by
          intro k
          induction k with
          | zero =>
            intro j hj hlt
            by_cases hm : j ∈ L
            · exact hm
            · exfalso
              have : j ∈ Region.ready .any ops.toArray listed := by
                refine mem_ready.2 ⟨?_, ops[j], by simp [List.getElem?_eq_getElem hlt], ?_⟩
                · have h3 : listed.getD j false ≠ true := fun q => hm ((hL j).1 q)
                  rw [Array.getD_eq_getD_getElem?, Array.getElem?_eq_getElem (by rw [hsz]; exact hlt)] at h3 ⊢
                  simpa using h3
                · intro e he _
                  have h4 := depsB_get ops 0 j ops[j] hdeps (List.getElem?_eq_getElem hlt) e.on (List.mem_map.2 ⟨e, by simpa using he, rfl⟩)
                  omega
              rw [hnil] at this
              cases this
          | succ k ihk =>
            intro j hj hlt
            by_cases hjk : j ≤ k
            · exact ihk j hjk hlt
            by_cases hm : j ∈ L
            · exact hm
            · exfalso
              have : j ∈ Region.ready .any ops.toArray listed := by
                refine mem_ready.2 ⟨?_, ops[j], by simp [List.getElem?_eq_getElem hlt], ?_⟩
                · have h3 : listed.getD j false ≠ true := fun q => hm ((hL j).1 q)
                  rw [Array.getD_eq_getD_getElem?, Array.getElem?_eq_getElem (by rw [hsz]; exact hlt)] at h3 ⊢
                  simpa using h3
                · intro e he _
                  have h4 := depsB_get ops 0 j ops[j] hdeps (List.getElem?_eq_getElem hlt) e.on (List.mem_map.2 ⟨e, by simpa using he, rfl⟩)
                  exact (hL e.on).2 (ihk e.on (by omega) (by omega))
              rw [hnil] at this
              cases this
        exact hQ L g hOk (fun j hj => hall j j (Nat.le_refl _) hj) a w (ha.le (hmore g _ _ (fun j hj => hall j j (Nat.le_refl _) (List.mem_range.1 hj)))) hw
      · obtain ⟨h1, o, h2, h3⟩ := mem_ready.1 hi
        have hlt : i < ops.length := by have := (Array.getElem?_eq_some_iff.1 h2).1; simpa using this
        have ho : ops[i]? = some o := by simpa using h2
        have hnl : ¬ i ∈ L := fun q => by
          have h4 := (hL i).2 q
          rw [Array.getD_eq_getD_getElem?, Array.getElem?_eq_getElem (by rw [hsz]; exact hlt)] at h1 h4
          simp at h1 h4
          rw [h1] at h4
          cases h4
        have hdL : ∀ j ∈ depOf o, j ∈ L := by
          intro j hj
          obtain ⟨e, he, rfl⟩ := List.mem_map.1 hj
          have hb := List.all_eq_true.1 hbind o (List.mem_of_getElem? ho)
          exact (hL e.on).1 (h3 e (by simpa using he) (List.all_eq_true.1 hb e he))
        have hcons := hmore g (depOf o) L hdL
        have hs : SOK N ds (flatS ops (vs g) (depOf o) σ ++ flatS ops (vs g) L σ) a := ha.le fun k u hk => by
          rw [slot_app] at hk
          cases hd : slot k (flatS ops (vs g) (depOf o) σ) with
          | some x => rw [hd] at hk; cases hk; exact hcons k _ hd
          | none => rw [hd] at hk; exact hk
        have hrun := drawG_get ops 0 i o hop ho L g hOk (by rwa [Nat.zero_add]) hdL (flatS ops (vs g) L σ) a w hs hw
        rw [Nat.zero_add] at hrun
        have hnext : ∀ a' w', GPost N ds w0 X ops vs H Ok i L g o.dst (flatS ops (vs g) (depOf o) σ ++ flatS ops (vs g) L σ) a' w' → wpAnyIn (wideR ro) n P .any ops.toArray Q fuel (listed.setIfInBounds i true) a' w' := by
          rintro a' w' ⟨g', hOk', hsame, ⟨v, hv, ha'⟩, hw'⟩
          have hflat : flatS ops (vs g') L σ = flatS ops (vs g) L σ := by
            clear hOk hOk' ih hs hrun ha hw ha' hw' hL hLb hnl hdL hcons hcnt
            induction L with
            | nil => rfl
            | cons j L ihL =>
              unfold flatS
              rw [ihL (fun j hj => hsame j (List.mem_cons_of_mem _ hj))]
              congr 1
              unfold dstv
              rw [hsame j (List.mem_cons_self ..)]
          refine ih (i :: L) _ a' w' (by simp [hsz]) ?_ ?_ ?_ g' hOk' (ha'.le ?_) hw'
          · intro j
            rw [Array.getD_eq_getD_getElem?]
            by_cases e : i = j
            · subst e
              rw [Array.getElem?_setIfInBounds_self, if_pos (by rw [hsz]; exact hlt)]
              simp
            · rw [Array.getElem?_setIfInBounds_ne e, ← Array.getD_eq_getD_getElem?, hL j]
              simp [show ¬ j = i from fun q => e q.symm]
          · intro j hj
            rcases List.mem_cons.1 hj with rfl | hj
            · exact hlt
            · exact hLb j hj
          · have : ((List.range ops.length).filter fun j => !(listed.setIfInBounds i true).getD j false).length < ((List.range ops.length).filter fun j => !listed.getD j false).length := by
              refine filter_less (i := i) ?_ (List.mem_range.2 hlt) ?_ ?_
              · intro j hj hq
                by_cases e : i = j
                · subst e
                  rw [Array.getD_eq_getD_getElem?, Array.getElem?_setIfInBounds_self, if_pos (by rw [hsz]; exact hlt)] at hq
                  simp at hq
                · rw [Array.getD_eq_getD_getElem?, Array.getElem?_setIfInBounds_ne e, ← Array.getD_eq_getD_getElem?] at hq
                  exact hq
              · have h4 : listed.getD i false ≠ true := fun q => hnl ((hL i).1 q)
                simpa using h4
              · rw [Array.getD_eq_getD_getElem?, Array.getElem?_setIfInBounds_self, if_pos (by rw [hsz]; exact hlt)]
                simp
            omega
          · intro k u hk
            unfold flatS at hk
            rw [slot_app] at hk
            cases hd : slot k (dstv ops (vs g') i) with
            | some x =>
              rw [hd] at hk
              cases hk
              obtain ⟨h5, h6⟩ := slot_dstv.1 hd
              rw [hv] at h6
              cases h6
              rw [nthD_eq, ho] at h5
              simp only [Option.bind_some] at h5
              rw [h5]
              unfold putS slot
              simp
            | none =>
              rw [hd] at hk
              rw [hflat] at hk
              have h7 : slot k (flatS ops (vs g) (depOf o) σ ++ flatS ops (vs g) L σ) = some u := by
                rw [slot_app]
                cases hd2 : slot k (flatS ops (vs g) (depOf o) σ) with
                | some x => have hk' : slot k (flatS ops (vs g) L σ) = some u := hk; have := hcons k x hd2; rw [hk'] at this; exact this.symm
                | none => exact hk
              cases hdo : o.dst with
              | none => exact h7
              | some d =>
                unfold putS slot
                have hne : Nat.beq d k = false := by
                  cases hb : Nat.beq d k with
                  | false => rfl
                  | true =>
                    exfalso
                    have e := Nat.eq_of_beq_eq_true hb
                    subst e
                    rw [slot_dstv.2 ⟨by rw [nthD_eq, ho]; exact hdo, hv⟩] at hd
                    cases hd
                simp only [hne, cond_false]
                exact h7
        unfold wpOpIn
        simp only [h2]
        unfold wpListIn at hrun
        split at hrun
        · rename_i hw1
          rw [if_pos hw1]
          exact wpIn_swapK (Oper.wpIn_mono (fun a' w' h => hnext a' w' h) hrun)
        · rename_i hw1
          rw [if_neg hw1]
          exact ⟨fun _ _ => trivial, hnext _ _ hrun.2⟩
  refine key _ [] _ a w.drew (by simp) (fun j => ?_) (fun j hj => by cases hj) ?_ g0 hOk0 ha (by rw [hH0]; exact hw.drew)
  · constructor
    · intro h
      rw [Array.getD_eq_getD_getElem?, Array.getElem?_replicate] at h
      split at h <;> simp at h
    · intro h
      cases h
  · have := List.length_filter_le (fun j => !(Array.replicate ops.toArray.size false).getD j false) (List.range ops.length)
    simpa using this
end
end Go.Proofs.Ytcmepdamemnbkaa
namespace Go.Proofs.Ytcmepdamemnbkaa
open Go.RowKit Go.Proofs.YtcmepdamemnbkaaW.PrintWords
set_option linter.unusedVariables false
set_option linter.unusedSimpArgs false
theorem flat_len {α : Type} (sz : Nat) : ∀ (cells : List (List α)), (∀ c ∈ cells, c.length = sz) → cells.flatten.length = cells.length * sz
  | [], _ => by simp
  | c :: r, h => by
    rw [List.flatten_cons, List.length_append, flat_len sz r (fun x hx => h x (List.mem_cons_of_mem _ hx)), h c (List.mem_cons_self ..), List.length_cons, Nat.add_mul]
    omega
theorem flat_at {α : Type} (sz : Nat) : ∀ (cells : List (List α)) (j i : Nat), (∀ c ∈ cells, c.length = sz) → i < sz → cells.flatten[j * sz + i]? = (cells[j]?).bind (·[i]?)
  | [], j, i, _, _ => by simp
  | c :: r, 0, i, h, hi => by
    have := h c (List.mem_cons_self ..)
    simp only [Nat.zero_mul, Nat.zero_add, List.flatten_cons, List.getElem?_cons_zero, Option.bind_some]
    rw [List.getElem?_append_left (by omega)]
  | c :: r, j + 1, i, h, hi => by
    have := h c (List.mem_cons_self ..)
    rw [List.flatten_cons, List.getElem?_append_right (by rw [this, Nat.add_mul]; omega), List.getElem?_cons_succ, ← flat_at sz r j i (fun x hx => h x (List.mem_cons_of_mem _ hx)) hi, this]
    congr 1
    rw [Nat.add_mul]
    omega
theorem flat_split {α : Type} {sz : Nat} (hsz : 0 < sz) (k : Nat) : k = (k / sz) * sz + k % sz ∧ k % sz < sz := ⟨by rw [Nat.mul_comm]; exact (Nat.div_add_mod k sz).symm, Nat.mod_lt _ hsz⟩
theorem flat_set {α : Type} (sz : Nat) : ∀ (cells : List (List α)) (j i : Nat) (c : List α) (v : α), (∀ c ∈ cells, c.length = sz) → cells[j]? = some c → i < sz → cells.flatten.set (j * sz + i) v = (cells.set j (c.set i v)).flatten
  | [], j, i, c, v, _, h, _ => by simp at h
  | x :: r, 0, i, c, v, h, hc, hi => by
    simp at hc
    subst hc
    have := h x (List.mem_cons_self ..)
    simp only [Nat.zero_mul, Nat.zero_add, List.flatten_cons, List.set_cons_zero]
    rw [List.set_append_left _ _ (by omega)]
  | x :: r, j + 1, i, c, v, h, hc, hi => by
    have := h x (List.mem_cons_self ..)
    rw [List.flatten_cons, List.set_append_right _ _ (by rw [this, Nat.add_mul]; omega), List.set_cons_succ, List.flatten_cons, ← flat_set sz r j i c v (fun x hx => h x (List.mem_cons_of_mem _ hx)) (by simpa using hc) hi, this]
    congr 2
    rw [Nat.add_mul]
    omega
/-- the cells of a row that is read -/
theorem C_cells {α : Type} {d : Kd α} {w : World} {A : Option Addr} {n : Nat} {xs : List α} (h : Kd.C d w A n xs) (hsz : 0 < d.sz) :
    ∃ cells : List (List Value), cells.length = n ∧ (∀ c ∈ cells, c.length = d.sz) ∧ (∀ (j : Nat) (x : α) (c : List Value), xs[j]? = some x → cells[j]? = some c → d.K w x c) ∧ ∀ p, A = some p → ∀ (i : Nat) (u : Value), cells.flatten[i]? = some u → w.cell? (p.add i) = some u := by
  obtain ⟨hl, _, hc⟩ := h
  by_cases hn : n = 0
  · subst hn
    exact ⟨[], rfl, by simp, by simp, by simp⟩
  obtain ⟨p, e, hc2⟩ := hc (by omega)
  subst e
  have hex : ∀ j, ∃ c, j < n → (∀ x, xs[j]? = some x → d.K w x c) ∧ c.length = d.sz ∧ ∀ i u, c[i]? = some u → w.cell? (p.add (j * d.sz + i)) = some u := fun j => by
    by_cases hj : j < n
    · have hjl : j < xs.length := by omega
      obtain ⟨c, h1, h2, h3⟩ := hc2 j _ (List.getElem?_eq_getElem hjl)
      refine ⟨c, fun _ => ⟨fun x hx => ?_, d.K_len h2, h3⟩⟩
      rw [List.getElem?_eq_getElem hjl] at hx
      cases hx
      exact h2
    · exact ⟨[], fun q => absurd q hj⟩
  let f := fun j => (hex j).choose
  have hf := fun j => (hex j).choose_spec
  have hat : ∀ j, j < n → ((List.range n).map f)[j]? = some (f j) := fun j hj => by simp [hj]
  have hall : ∀ c ∈ (List.range n).map f, c.length = d.sz := fun c hc => by
    obtain ⟨j, hj, rfl⟩ := List.mem_map.1 hc
    exact (hf j (List.mem_range.1 hj)).2.1
  refine ⟨(List.range n).map f, by simp, hall, fun j x c hx hc => ?_, fun q e i u hu => ?_⟩
  · have hj : j < n := by have := (List.getElem?_eq_some_iff.1 hx).1; omega
    rw [hat j hj] at hc
    cases hc
    exact (hf j hj).1 x hx
  · cases e
    obtain ⟨h1, h2⟩ := flat_split (α := Value) hsz i
    rw [h1, flat_at d.sz _ _ _ hall h2] at hu
    obtain ⟨c, h3, h4⟩ := Option.bind_eq_some_iff.1 hu
    have hj : i / d.sz < n := by have := (List.getElem?_eq_some_iff.1 h3).1; simpa using this
    rw [hat _ hj] at h3
    cases h3
    rw [h1]
    exact (hf _ hj).2.2 _ u h4
/-- a row of the call's own, as it is read -/
theorem C_row {α : Type} {d : Kd α} {w : World} {b cap : Nat} {e : TypeId} {xs : List α} {cells : List (List Value)} {o : Obj} (ho : w.heap[b]? = some o) (hr : orow e d.sz cells.length cap cells.flatten o) (hl : cells.length = xs.length) (hc : ∀ c ∈ cells, c.length = d.sz)
    (hK : ∀ (j : Nat) (x : α) (c : List Value), xs[j]? = some x → cells[j]? = some c → d.K w x c) (hm : xs.length ≤ 9223372036854775807) : Kd.C d w (some ⟨b, 0, none⟩) xs.length xs := by
  obtain ⟨cur, rfl, h5, h6, h7, h8⟩ := hr
  refine ⟨rfl, hm, fun _ => ⟨_, rfl, fun j x hj => ?_⟩⟩
  have hjl : j < cells.length := by have := (List.getElem?_eq_some_iff.1 hj).1; omega
  have hcj := List.getElem?_eq_getElem hjl
  refine ⟨cells[j], hc _ (List.getElem_mem hjl), hK j x _ hj hcj, ?_⟩
  intro i u hu
  have hi : i < d.sz := by have := (List.getElem?_eq_some_iff.1 hu).1; have := hc _ (List.getElem_mem hjl); omega
  have h9 := flat_at d.sz cells j i hc hi
  rw [hcj, Option.bind_some, hu, ← h8] at h9
  rw [List.getElem?_take] at h9
  split at h9
  · rw [Addr.add_lit, Nat.zero_add, cell_of_row w b _ _ e _ ho, ← Array.getElem?_toList]
    exact h9
  · cases h9
section
variable {P : Program} {ro : Option Nat} {n N : Nat} {ds : List Deferred} {w0 : World} {X : Nat → Prop} {Q : Exit → Act → World → Prop} {σ : Slots} {η : Hp} {ops rest : List Oper} {d : Option Tmp} {ty : TypeId} {pos : String} {aft : Array Edge} {g : Option (Nat × Bool)}
theorem xo_loadZ (T : Tys P) {t : TypeId} {x : Operand} {p : Addr} {b m cap k sz : Nat} {wr : Bool} {xs : List Value} {te : TypeId} {v : Value} (hg : gS ops σ g = some true) (ht : look t T.tk = some 0) (hx : ev σ x = some (.pointer (some p))) (hp : p = ⟨b, k, none⟩) (hm : (b, wr, orow te sz m cap xs) ∈ η) (hv : xs[k]? = some v) (hN : dstOK N d = true)
    (h : XO P ro n N ds w0 X Q ops (putS d v σ) η rest) : XO P ro n N ds w0 X Q ops σ η (⟨d, .load t x, ty, pos, aft, g⟩ :: rest) :=
  xo_val v rfl hg hN (fun a w ha hw => by
    have h1 := (T.htk _ (look_mem ht)).1 w
    obtain ⟨o, h4, cur, rfl, h5, h6, h7, h8⟩ := hw.bl _ hm
    have h2 : w.cell? ⟨b, k, none⟩ = some v := by
      rw [cell_of_row w b k _ te _ h4, ← Array.getElem?_toList]
      rw [← h8] at hv
      rw [List.getElem?_take] at hv
      split at hv
      · exact hv
      · cases hv
    have h3 := ha.ev hx
    rw [hp] at h3
    simp [execOp, h3, Instr.loadAt, Instr.sureAddr, loadVar, h1, h2]) h
theorem xo_storeZ (T : Tys P) {t : TypeId} {p x : Operand} {pa : Addr} {b k m cap sz : Nat} {xs : List Value} {te : TypeId} {v : Value} {η' : Hp} (hg : gS ops σ g = some true) (ht : look t T.tk = some 0) (hp : ev σ p = some (.pointer (some pa))) (hpa : pa = ⟨b, k, none⟩) (hx : ev σ x = some v)
    (hm : (b, true, orow te sz m cap xs) ∈ η) (hv : v.cells = #[v]) (h1 : v.oneCell' = true) (hlt : k < m * sz) (hU : Upd b (orow te sz m cap (xs.set k v)) η η') (hN : dstOK N d = true)
    (h : XO P ro n N ds w0 X Q ops (putS d undef σ) η' rest) : XO P ro n N ds w0 X Q ops σ η (⟨d, .store t p x, ty, pos, aft, g⟩ :: rest) :=
  xo_base rfl hg fun a w ha hw => by
    have h2 : (sizeOf t).run P w = .ok 1 w := (T.htk _ (look_mem ht)).2 w
    obtain ⟨o, h4, cur, rfl, h5, h6, h7, h8⟩ := hw.bl _ hm
    have hkc : k < cur.size := by rw [h7]; exact Nat.lt_of_lt_of_le hlt (Nat.mul_le_mul_right _ h5)
    have hcell : w.cell? ⟨b, k, none⟩ = some (cur[k]'hkc) := by
      rw [cell_of_row w b k _ te _ h4]
      simp [Array.getElem?_eq_getElem hkc]
    have hfz : w.frozen? ⟨b, k, none⟩ = false := frozen_of_row w b k _ te h4
    have hst : (store ⟨b, k, none⟩ v .plain).run P w = .ok () (w.setCell ⟨b, k, none⟩ v) := by
      rw [run_store P w _ v _ h1, hcell]
      simp [hfz]
    have hb' : (w.setCell ⟨b, k, none⟩ v).heap[b]? = some (.cells (cur.setIfInBounds k v) te (0, 0)) := heap_setCell_same w b k _ te v h4
    have h3 := ha.ev hp
    rw [hpa] at h3
    refine ⟨.skip, _, undef, ?_, .inr ⟨rfl, rfl⟩, h _ _ (ha.put hN _) (hw.upd hU (OneB.setCell w b k v) hb' ⟨_, rfl, h5, h6, by simpa using h7, ?_⟩)⟩
    · simp only [execOp, h3, ha.ev hx, Instr.storeAt, Instr.sureAddr, storeVar, Sem.run_bind, Sem.run_pure, Result.andThen_ok, h2, hv, List.size_toArray, List.length_cons, List.length_nil, ne_eq, not_true_eq_false, ↓reduceIte, storeCells, Addr.add_zero', hst]
    · rw [Array.toList_setIfInBounds, ← h8, List.take_set]
theorem xq_perm {e : Exit} {η' : Hp} (hp : List.Perm η η') (h : XQ N ds w0 X Q e σ η') : XQ N ds w0 X Q e σ η := fun a w ha hw => h a w ha (hw.perm hp)
/-- append of a whole row onto a literal without elements -/
theorem xo_appE (T : TysR P) {t e : TypeId} {s x : Operand} {z : Value} {sz by_ k c b0 : Nat} {A : Option Addr} {news : List Value} {η0 : Hp} (hg : gS ops σ g = some true) (ht : look t T.el = some e) (hi : look e T.inf = some (z, sz, by_)) (hzs : z.cells.toList.length = sz) (hsz : Nat.blt 0 sz = true)
    (hs : ev σ s = some (.slice (some ⟨b0, 0, none⟩) 0 0)) (hx : ev σ x = some (.slice A k c)) (hη : η = (b0, true, orow e sz 0 0 []) :: η0) (hn : news.length = k * sz) (hA : A = none → k = 0) (hnews : ∀ p, A = some p → ∀ w, WOK w0 X η w → ∀ j u, news[j]? = some u → w.cell? (p.add j) = some u) (h1 : ∀ u ∈ news, u.oneCell' = true)
    (hb : k * by_ ≤ 140737488355328) (hb0 : Nat.blt 0 by_ = true) (hN : dstOK N d = true)
    (h : ∀ b cap, XO P ro n N ds w0 X Q ops (putS d (.slice (some ⟨b, 0, none⟩) k cap) σ) ((b, true, orow e sz k cap news) :: η0) rest) :
    XO P ro n N ds w0 X Q ops σ η (⟨d, .call { callee := .builtin .append, args := #[s, x], argTypes := #[t, t] }, ty, pos, aft, g⟩ :: rest) := by
  refine xo_appN T (r := some (b0, 0)) (m := 0) (xs := []) (η0 := η0) hg ht hi hzs hsz hs hx (by subst hη; rfl) (by simp) hn hA hnews h1 (fun _ => rfl) (by rw [Nat.zero_add]; exact hb) hb0 hN fun r' hr' => ?_
  rcases r' with _ | ⟨b, cap⟩
  · exact absurd (hr' rfl).1 (by simp)
  · rw [Nat.zero_add, List.nil_append]
    exact h b cap
end
end Go.Proofs.Ytcmepdamemnbkaa
namespace Go.Proofs.Ytcmepdamemnbkaa
open Go.RowKit Go.Proofs.YtcmepdamemnbkaaW.PrintWords
set_option linter.unusedVariables false
set_option linter.unusedSimpArgs false
theorem ad3 (b i j : Nat) : (Addr.add (Addr.add ⟨b, 0, none⟩ ((i : Int).toNat * szN 3)) j) = ⟨b, i * 3 + j, none⟩ := by
  rw [Addr.add_lit, Addr.add_lit, show szN 3 = 3 from rfl]
  simp
theorem ad1 (b j : Nat) : Addr.add ⟨b, 0, none⟩ ((j : Int).toNat * szN 0) = ⟨b, j, none⟩ := by
  rw [Addr.add_lit]
  simp [szN]
theorem flat_ones (vs : List Value) : (vs.map fun v => [v]).flatten = vs := by
  induction vs with
  | nil => rfl
  | cons v vs ih => rw [List.map_cons, List.flatten_cons, ih]; rfl
def intRow (F : Hp) (v : Value) (xs : List Int) : Prop := ∃ b cap, v = .slice (some ⟨b, 0, none⟩) xs.length cap ∧ (b, true, orow 3 1 xs.length cap (xs.map (.int .i64))) ∈ F
def wayRow (F : Hp) (v : Value) (ways : List (List Int)) : Prop := ∃ b cap vs, v = .slice (some ⟨b, 0, none⟩) ways.length cap ∧ (b, true, orow 26 1 ways.length cap vs) ∈ F ∧ vs.length = ways.length ∧ ∀ k u, k < ways.length → vs[k]? = some u → intRow F u (ways.getD k [])
theorem intRow.mono {F G : Hp} {v : Value} {xs : List Int} (h : intRow F v xs) (hs : ∀ e ∈ F, e ∈ G) : intRow G v xs := by
  obtain ⟨b, cap, h1, h2⟩ := h
  exact ⟨b, cap, h1, hs _ h2⟩
theorem wayRow.mono {F G : Hp} {v : Value} {ways : List (List Int)} (h : wayRow F v ways) (hs : ∀ e ∈ F, e ∈ G) : wayRow G v ways := by
  obtain ⟨b, cap, vs, h1, h2, h3, h4⟩ := h
  exact ⟨b, cap, vs, h1, hs _ h2, h3, fun k u hk hu => (h4 k u hk hu).mono hs⟩
theorem intRow.C {F : Hp} {w0 w : World} {X : Nat → Prop} (hw : WOK w0 X F w) {v : Value} {xs : List Int} (h : intRow F v xs) (hm : xs.length ≤ 9223372036854775807) : ∃ A c, v = .slice A xs.length c ∧ xs.length ≤ c ∧ Kd.C (Kd.int .i64) w A xs.length xs := by
  obtain ⟨b, cap, h1, h2⟩ := h
  obtain ⟨o, h3, h4⟩ := hw.bl _ h2
  have h5 : xs.length ≤ cap := by obtain ⟨_, _, h5, _⟩ := h4; exact h5
  exact ⟨_, cap, h1, h5, C_orow h3 h4 rfl hm⟩
theorem wayRow.C {F : Hp} {w0 w : World} {X : Nat → Prop} (hw : WOK w0 X F w) {v : Value} {ways : List (List Int)} (h : wayRow F v ways) (hm : ways.length ≤ 9223372036854775807) (hm2 : ∀ k, k < ways.length → (ways.getD k []).length ≤ 9223372036854775807) : ∃ A c, v = .slice A ways.length c ∧ ways.length ≤ c ∧ Kd.C waysK w A ways.length ways := by
  obtain ⟨b, cap, vs, h1, h2, h3, h4⟩ := h
  obtain ⟨o, h5, h6⟩ := hw.bl _ h2
  have h7 : ways.length ≤ cap := by obtain ⟨_, _, h7, _⟩ := h6; exact h7
  refine ⟨_, cap, h1, h7, C_row (d := waysK) (cells := vs.map fun v => [v]) h5 (e := 26) (cap := cap) ?_ (by simp [h3]) (by intro c hc; obtain ⟨v, _, rfl⟩ := List.mem_map.1 hc; rfl) ?_ hm⟩
  · rw [flat_ones, List.length_map, h3]
    exact h6
  · intro j x c hx hc
    have hj : j < ways.length := (List.getElem?_eq_some_iff.1 hx).1
    have hxd : ways.getD j [] = x := by simp [List.getD_eq_getElem?_getD, hx]
    rw [List.getElem?_map] at hc
    obtain ⟨u, hu, rfl⟩ := Option.map_eq_some_iff.1 hc
    have hlx := hm2 j hj
    obtain ⟨A, c, h8, h9, h10⟩ := (h4 j u hj hu).C hw hlx
    rw [hxd] at h8 h9 h10
    subst h8
    exact ⟨A, c, rfl, h9, h10⟩
/-- a copy of a row, in four steps: nothing yet, the literal, the copy, stored -/
inductive Stg where
  | s0
  | s1 (b : Nat)
  | s2 (b b' cap : Nat)
  | s3 (b b' cap : Nat)
def Stg.x : Stg → Nat
  | .s0 => 0
  | .s1 b => b
  | .s2 b _ _ => b
  | .s3 b _ _ => b
def Stg.y : Stg → Nat
  | .s2 _ b _ => b
  | .s3 _ b _ => b
  | _ => 0
def Stg.z : Stg → Nat
  | .s2 _ _ c => c
  | .s3 _ _ c => c
  | _ => 0
def okG : List Nat → Stg → Prop
  | L, .s0 => 6 ∉ L ∧ 15 ∉ L ∧ 17 ∉ L
  | L, .s1 _ => 6 ∈ L ∧ 15 ∉ L ∧ 17 ∉ L
  | L, .s2 _ _ _ => 6 ∈ L ∧ 15 ∈ L ∧ 17 ∉ L
  | L, .s3 _ _ _ => ∀ j, j < 18 → j ∈ L
def vsG (a0 a1 a2 a3 a4 a5 a7 a8 a9 a10 a11 a12 a13 a14 a16 : Value) (m : Nat) (g : Stg) : List Value :=
  [a0, a1, a2, a3, a4, a5, .slice (some ⟨g.x, 0, none⟩) 0 0, a7, a8, a9, a10, a11, a12, a13, a14, .slice (some ⟨g.y, 0, none⟩) m g.z, a16, undef]
theorem vsG_same {a0 a1 a2 a3 a4 a5 a7 a8 a9 a10 a11 a12 a13 a14 a16 : Value} {m : Nat} {g g' : Stg} {j : Nat} (h6 : j = 6 → g.x = g'.x) (h15 : j = 15 → g.y = g'.y ∧ g.z = g'.z) :
    nth j (vsG a0 a1 a2 a3 a4 a5 a7 a8 a9 a10 a11 a12 a13 a14 a16 m g) = nth j (vsG a0 a1 a2 a3 a4 a5 a7 a8 a9 a10 a11 a12 a13 a14 a16 m g') := by
  by_cases e6 : j = 6
  · subst e6; simp [vsG, nth, h6 rfl]
  by_cases e15 : j = 15
  · subst e15; simp [vsG, nth, h15 rfl]
  rcases j with _ | _ | _ | _ | _ | _ | _ | _ | _ | _ | _ | _ | _ | _ | _ | _ | _ | _ | j
  all_goals first | rfl | exact absurd rfl e6 | exact absurd rfl e15
def hG (m : Nat) (ints : List Value) (base : Hp) (base' : Nat → Nat → Hp) : Stg → Hp
  | .s0 => base
  | .s1 b => (b, true, orow 3 1 0 0 []) :: base
  | .s2 _ b' cap => (b', true, orow 3 1 m cap ints) :: base
  | .s3 _ b' cap => (b', true, orow 3 1 m cap ints) :: base' b' cap
theorem ints_flat {w : World} {xs : List Int} {cells : List (List Value)} (hl : cells.length = xs.length) (h : ∀ (j : Nat) (x : Int) (c : List Value), xs[j]? = some x → cells[j]? = some c → (Kd.int .i64).K w x c) : cells.flatten = xs.map (.int .i64) := by
  have : cells = (xs.map (Value.int .i64)).map fun v => [v] := by
    refine List.ext_getElem (by simp [hl]) fun j h1 h2 => ?_
    have h3 : cells[j] = _ := h j _ _ (List.getElem?_eq_getElem (by omega)) (List.getElem?_eq_getElem h1)
    rw [h3]
    simp
  rw [this, flat_ones]
end Go.Proofs.Ytcmepdamemnbkaa
namespace Go.Proofs.Ytcmepdamemnbkaa
open Go.RowKit Go.Proofs.YtcmepdamemnbkaaW.PrintWords
set_option linter.unusedVariables false
set_option linter.unusedSimpArgs false
def recC (x : RecT) (v : Value) : List Value := [.int .i64 x.f0, .int .u8 x.f1, v]
set_option maxHeartbeats 16000000 in
theorem twin_calls (A : Option Addr) (c : Nat) (r : List RecT) (w : World) (hr : Kd.C recK w A r.length r) (hsm : Small r) :
    Calls Try.prog 6 #[.slice A r.length c] w fun e w' => ∃ b cap, e = .returned (.slice (some ⟨b, 0, none⟩) r.length cap) ∧ Below w.heap.size w w' ∧ r.length ≤ cap ∧ Kd.C recK w' (some ⟨b, 0, none⟩) r.length r := by
  obtain ⟨hlen, hways⟩ := hsm
  obtain ⟨cells0, hc1, hc2, hc3, hc4⟩ := C_cells hr (d := recK) (by decide)
  have hA0 : A = none → r.length = 0 := fun e => by
    subst e
    by_cases h : r.length = 0
    · exact h
    · obtain ⟨ad, e, _⟩ := hr.2.2 (by omega)
      cases e
  have hcell0 : ∀ j, j < r.length → ∃ v, cells0[j]? = some (recC (r.getD j zRec) v) ∧ ∃ A c, v = .slice A (r.getD j zRec).f2.length c ∧ (r.getD j zRec).f2.length ≤ c ∧ Kd.C waysK w A (r.getD j zRec).f2.length (r.getD j zRec).f2 := fun j hj => by
    have h1 : cells0[j]? = some cells0[j] := List.getElem?_eq_getElem (by omega)
    have h2 : r[j]? = some (r.getD j zRec) := by simp [List.getD_eq_getElem?_getD, List.getElem?_eq_getElem hj]
    obtain ⟨A2, c2, h3, h4, h5⟩ := k43_open (hc3 j _ _ h2 h1)
    exact ⟨_, by rw [h1, h3]; rfl, A2, c2, rfl, h4, h5⟩
  refine x_calls (X := XNone) Try.func6 rfl rfl rfl ?_
  with_reducible repeat refine xc_seq ?_
  with_reducible refine xc_region ?_
  refine xo_asg rfl rfl rfl ?_
  with_reducible refine xo_nil ?_
  with_reducible repeat (first | refine xq_then ?_ | refine xq_blockN ?_ | refine xq_scopeN ?_)
  with_reducible repeat refine xc_seq ?_
  with_reducible refine xc_region ?_
  refine xo_bs0 T_ 3 rfl rfl rfl rfl (fun b0 => ?_)
  refine xo_mv rfl rfl rfl ?_
  refine xo_appE TR_ rfl rfl rfl rfl rfl rfl rfl rfl (by rw [flat_len 3 cells0 hc2, hc1]) hA0 (fun p e w1 hw1 j u hj => hw1.kx.cell (hc4 p e j u hj) (fun h => h)) (fun u hu => by obtain ⟨c, hc, hu⟩ := List.mem_flatten.1 hu; obtain ⟨j, hj, rfl⟩ := List.getElem_of_mem hc; exact recK.K_one (hc3 j _ _ (List.getElem?_eq_getElem (by omega)) (List.getElem?_eq_getElem hj)) u hu) (by omega) rfl rfl (fun b cap => ?_)
  refine xo_asg rfl rfl rfl ?_
  with_reducible refine xo_nil ?_
  with_reducible repeat (first | refine xq_then ?_ | refine xq_blockN ?_ | refine xq_scopeN ?_)
  with_reducible repeat refine xc_seq ?_
  with_reducible refine xc_region ?_
  refine xo_asg rfl rfl rfl ?_
  with_reducible refine xo_nil ?_
  with_reducible repeat (first | refine xq_then ?_ | refine xq_blockN ?_ | refine xq_scopeN ?_)
  with_reducible repeat refine xc_seq ?_
  with_reducible refine xc_block ?_
  refine xc_loop (γ := Nat × Hp × List (List Value)) (fun q => q.1 ≤ r.length ∧ q.2.2.length = r.length ∧ ∀ j, j < r.length → ∃ v, q.2.2[j]? = some (recC (r.getD j zRec) v) ∧ (j < q.1 → wayRow q.2.1 v (r.getD j zRec).f2) ∧ (q.1 ≤ j → ∃ A c, v = .slice A (r.getD j zRec).f2.length c ∧ (r.getD j zRec).f2.length ≤ c ∧ Kd.C waysK w A (r.getD j zRec).f2.length (r.getD j zRec).f2))
    (fun q => [(3, .slice (some ⟨b, 0, none⟩) r.length cap), (4, .int .i64 (q.1 : Int))]) (fun q => (b, true, orow 43 3 r.length cap q.2.2.flatten) :: q.2.1) (fun q => r.length - q.1) (0, [], cells0)
    ⟨Nat.zero_le _, hc1, fun j hj => by obtain ⟨v, h1, h2⟩ := hcell0 j hj; exact ⟨v, h1, fun h => absurd h (by simp), fun _ => h2⟩⟩ ⟨rfl, rfl, trivial⟩ (by repeat (first | exact List.Sublist.refl _ | apply List.Sublist.cons_cons | apply List.Sublist.cons | exact List.nil_sublist _)) ?_
  rintro ⟨i, F, cells⟩ ⟨hi1, hcl, hcs⟩
  simp only at hi1 hcl hcs ⊢
  have hcl3 : ∀ c ∈ cells, c.length = 3 := fun c hc => by
    obtain ⟨j, hj, rfl⟩ := List.getElem_of_mem hc
    obtain ⟨v, h1, _⟩ := hcs j (by omega)
    rw [List.getElem?_eq_getElem hj] at h1
    rw [Option.some.inj h1]
    rfl
  with_reducible repeat refine xc_seq ?_
  with_reducible refine xc_region ?_
  refine xo_mv rfl rfl rfl ?_
  refine xo_mv rfl rfl rfl ?_
  refine xo_len T_ rfl rfl rfl rfl ?_
  refine xo_lss rfl rfl rfl rfl ?_
  with_reducible refine xo_nil ?_
  with_reducible repeat (first | refine xq_then ?_ | refine xq_blockN ?_ | refine xq_scopeN ?_)
  with_reducible repeat refine xc_seq ?_
  refine xc_cond rfl (fun h => ?_) (fun h => ?_)
  · have hil : i < r.length := by have := of_decide_eq_true h; omega
    obtain ⟨v, hv1, _, hv2⟩ := hcs i hil
    obtain ⟨A2, c2, rfl, hv3, hv4⟩ := hv2 (Nat.le_refl _)
    obtain ⟨hx6, hx8⟩ := hways i hil
    generalize hx : r.getD i zRec = x at *
    obtain ⟨vcells, hw1, hw2, hw3, hw4⟩ := C_cells hv4 (d := waysK) (by decide)
    have hA2 : A2 = none → x.f2.length = 0 := fun e => by
      subst e
      by_cases h : x.f2.length = 0
      · exact h
      · obtain ⟨ad, e, _⟩ := hv4.2.2 (by omega)
        cases e
    have hvs0 : ∀ k, k < x.f2.length → ∃ A c, vcells.flatten[k]? = some (.slice A (x.f2.getD k []).length c) ∧ Kd.C (Kd.int .i64) w A (x.f2.getD k []).length (x.f2.getD k []) := fun k hk => by
      have h1 : vcells[k]? = some vcells[k] := List.getElem?_eq_getElem (by omega)
      have h2 : x.f2[k]? = some (x.f2.getD k []) := by simp [List.getD_eq_getElem?_getD, List.getElem?_eq_getElem hk]
      obtain ⟨A, c, h3, h4, h5⟩ := hw3 k _ _ h2 h1
      have h6 := flat_at 1 vcells k 0 hw2 (by omega)
      rw [Nat.mul_one, Nat.add_zero, h1, h3] at h6
      exact ⟨A, c, h6, h5⟩
    have hvl : vcells.flatten.length = x.f2.length := by rw [flat_len 1 vcells hw2, hw1, Nat.mul_one]
    have hvone : ∀ u ∈ vcells.flatten, u.oneCell' = true := fun u hu => by
      obtain ⟨c, hc, hu⟩ := List.mem_flatten.1 hu
      obtain ⟨j, hj, rfl⟩ := List.getElem_of_mem hc
      exact waysK.K_one (hw3 j _ _ (List.getElem?_eq_getElem (by omega)) (List.getElem?_eq_getElem hj)) u hu
    generalize vcells.flatten = vs0 at *
    with_reducible refine xc_skip ?_
    with_reducible repeat (first | refine xq_then ?_ | refine xq_blockN ?_ | refine xq_scopeN ?_)
    with_reducible repeat refine xc_seq ?_
    with_reducible refine xc_block ?_
    with_reducible repeat refine xc_seq ?_
    with_reducible refine xc_region ?_
    refine xo_mv rfl rfl rfl ?_
    refine xo_mv rfl rfl rfl ?_
    refine xo_bs0 T_ 1 rfl rfl rfl rfl (fun b1 => ?_)
    refine xo_mv rfl rfl rfl ?_
    refine xo_mv rfl rfl rfl ?_
    refine xo_ia T_ rfl rfl rfl rfl rfl ⟨by omega, by omega⟩ rfl ?_
    refine xo_faR T_ rfl rfl rfl rfl rfl ?_
    refine xo_loadZ T_ (k := i * 3 + 2) rfl rfl rfl (ad3 _ _ _) (by repeat (first | exact List.Mem.head _ | apply List.Mem.tail | apply List.mem_append_right)) (by rw [flat_at 3 cells i 2 hcl3 (by omega), hv1]; rfl) rfl ?_
    refine xo_appE TR_ rfl rfl rfl rfl rfl rfl rfl rfl (by rw [hvl, Nat.mul_one]) hA2 (fun p e w1 hw1 j u hj => hw1.kx.cell (hw4 p e j u hj) (fun h => h)) hvone (by omega) rfl rfl (fun b2 cap2 => ?_)
    refine xo_ia T_ rfl rfl rfl rfl rfl ⟨by omega, by omega⟩ rfl ?_
    refine xo_faR T_ rfl rfl rfl rfl rfl ?_
    refine xo_storeZ T_ (η' := (b2, true, orow 26 1 x.f2.length cap2 vs0) :: (b, true, orow 43 3 r.length cap (cells.set i (recC x (.slice (some ⟨b2, 0, none⟩) x.f2.length cap2))).flatten) :: F) rfl rfl rfl (ad3 _ _ _) rfl (by repeat (first | exact List.Mem.head _ | apply List.Mem.tail | apply List.mem_append_right)) rfl rfl (by omega) (by rw [flat_set 3 cells i 2 _ _ hcl3 hv1 (by omega)]; exact Upd.tail Upd.head) rfl ?_
    with_reducible refine xo_nil ?_
    with_reducible repeat (first | refine xq_then ?_ | refine xq_blockN ?_ | refine xq_scopeN ?_)
    with_reducible repeat refine xc_seq ?_
    with_reducible refine xc_region ?_
    refine xo_asg rfl rfl rfl ?_
    with_reducible refine xo_nil ?_
    with_reducible repeat (first | refine xq_then ?_ | refine xq_blockN ?_ | refine xq_scopeN ?_)
    with_reducible repeat refine xc_seq ?_
    with_reducible refine xc_block ?_
    refine xc_loop (γ := Nat × Hp × List Value) (fun q => q.1 ≤ x.f2.length ∧ q.2.2.length = x.f2.length ∧ (∀ e ∈ F, e ∈ q.2.1) ∧ ∀ k, k < x.f2.length → ∃ u, q.2.2[k]? = some u ∧ (k < q.1 → intRow q.2.1 u (x.f2.getD k [])) ∧ (q.1 ≤ k → ∃ A c, u = .slice A (x.f2.getD k []).length c ∧ Kd.C (Kd.int .i64) w A (x.f2.getD k []).length (x.f2.getD k [])))
      (fun q => [(3, .slice (some ⟨b, 0, none⟩) r.length cap), (4, .int .i64 (i : Int)), (5, .int .i64 (q.1 : Int))])
      (fun q => (b2, true, orow 26 1 x.f2.length cap2 q.2.2) :: (b, true, orow 43 3 r.length cap (cells.set i (recC x (.slice (some ⟨b2, 0, none⟩) x.f2.length cap2))).flatten) :: q.2.1) (fun q => x.f2.length - q.1) (0, F, vs0)
      ⟨Nat.zero_le _, hvl, fun e he => he, fun k hk => by obtain ⟨A, c, h1, h2⟩ := hvs0 k hk; exact ⟨_, h1, fun h => absurd h (by simp), fun _ => ⟨A, c, rfl, h2⟩⟩⟩ ⟨rfl, rfl, rfl, trivial⟩ (by repeat (first | exact List.Sublist.refl _ | apply List.Sublist.cons_cons | apply List.Sublist.cons | exact List.nil_sublist _)) ?_
    have hcl3' : ∀ c ∈ cells.set i (recC x (.slice (some ⟨b2, 0, none⟩) x.f2.length cap2)), c.length = 3 := fun c hc => by
      rcases List.mem_or_eq_of_mem_set hc with h | rfl
      · exact hcl3 c h
      · rfl
    have hcat : (cells.set i (recC x (.slice (some ⟨b2, 0, none⟩) x.f2.length cap2))).flatten[i * 3 + 2]? = some (.slice (some ⟨b2, 0, none⟩) x.f2.length cap2) := by
      rw [flat_at 3 _ i 2 hcl3' (by omega), List.getElem?_set_self (by omega)]
      rfl
    rintro ⟨j, F', vs⟩ ⟨hj1, hvl2, hFF, hvs⟩
    simp only at hj1 hvl2 hFF hvs ⊢
    with_reducible repeat refine xc_seq ?_
    with_reducible refine xc_region ?_
    refine xo_mv rfl rfl rfl ?_
    refine xo_mv rfl rfl rfl ?_
    refine xo_mv rfl rfl rfl ?_
    refine xo_ia T_ rfl rfl rfl rfl rfl ⟨by omega, by omega⟩ rfl ?_
    refine xo_faR T_ rfl rfl rfl rfl rfl ?_
    refine xo_loadZ T_ (k := i * 3 + 2) rfl rfl rfl (ad3 _ _ _) (by repeat (first | exact List.Mem.head _ | apply List.Mem.tail | apply List.mem_append_right)) hcat rfl ?_
    refine xo_len T_ rfl rfl rfl rfl ?_
    refine xo_lss rfl rfl rfl rfl ?_
    with_reducible refine xo_nil ?_
    with_reducible repeat (first | refine xq_then ?_ | refine xq_blockN ?_ | refine xq_scopeN ?_)
    with_reducible repeat refine xc_seq ?_
    refine xc_cond rfl (fun h => ?_) (fun h => ?_)
    · have hjl : j < x.f2.length := by have := of_decide_eq_true h; omega
      obtain ⟨u, hu1, _, hu2⟩ := hvs j hjl
      obtain ⟨A4, c4, rfl, hu3⟩ := hu2 (Nat.le_refl _)
      have h8 := hx8 j hjl
      generalize hway : x.f2.getD j [] = way at *
      obtain ⟨icells, hi2, hi3, hi4, hi5⟩ := C_cells hu3 (d := Kd.int .i64) (by decide)
      have hicells : icells.flatten = way.map (.int .i64) := ints_flat hi2 hi4
      rw [hicells] at hi5
      have hA4 : A4 = none → way.length = 0 := fun e => by
        subst e
        by_cases h : way.length = 0
        · exact h
        · obtain ⟨ad, e, _⟩ := hu3.2.2 (by omega)
          cases e
      with_reducible refine xc_skip ?_
      with_reducible repeat (first | refine xq_then ?_ | refine xq_blockN ?_ | refine xq_scopeN ?_)
      with_reducible repeat refine xc_seq ?_
      with_reducible refine xc_block ?_
      with_reducible repeat refine xc_seq ?_
      refine xc_drawG (vsG (.slice (some ⟨b, 0, none⟩) r.length cap) (.int .i64 (i : Int)) (.pointer (some (Addr.add ⟨b, 0, none⟩ ((i : Int).toNat * szN 3)))) (.pointer (some (Addr.add (Addr.add ⟨b, 0, none⟩ ((i : Int).toNat * szN 3)) 2))) (.slice (some ⟨b2, 0, none⟩) x.f2.length cap2) (.int .i64 (j : Int)) (.slice (some ⟨b, 0, none⟩) r.length cap) (.int .i64 (i : Int)) (.pointer (some (Addr.add ⟨b, 0, none⟩ ((i : Int).toNat * szN 3)))) (.pointer (some (Addr.add (Addr.add ⟨b, 0, none⟩ ((i : Int).toNat * szN 3)) 2))) (.slice (some ⟨b2, 0, none⟩) x.f2.length cap2) (.int .i64 (j : Int)) (.pointer (some (Addr.add ⟨b2, 0, none⟩ ((j : Int).toNat * szN 0)))) (.slice A4 way.length c4) (.pointer (some (Addr.add ⟨b2, 0, none⟩ ((j : Int).toNat * szN 0)))) way.length) (hG way.length (way.map (.int .i64)) ((b2, true, orow 26 1 x.f2.length cap2 vs) :: (b, true, orow 43 3 r.length cap (cells.set i (recC x (.slice (some ⟨b2, 0, none⟩) x.f2.length cap2))).flatten) :: F') (fun b7 c7 => (b2, true, orow 26 1 x.f2.length cap2 (vs.set j (.slice (some ⟨b7, 0, none⟩) way.length c7))) :: (b, true, orow 43 3 r.length cap (cells.set i (recC x (.slice (some ⟨b2, 0, none⟩) x.f2.length cap2))).flatten) :: F')) okG .s0 ?_ rfl (fun g => rfl) T_.mixed rfl rfl rfl rfl ?_ ?_
      · simp [okG]
      · apply DrawG.pure (fun L g h => by cases g <;> first | exact fun j hj => List.mem_cons_of_mem _ (h j hj) | simpa [okG] using h)
        · intro L g hg hi hd τ
          cases g
          all_goals first
            | exact absurd (hg 0 (by decide)) hi
            | (refine ⟨_, rfl, ?_⟩
               refine xo_mv rfl rfl rfl ?_
               exact xo_fin rfl)
        apply DrawG.pure (fun L g h => by cases g <;> first | exact fun j hj => List.mem_cons_of_mem _ (h j hj) | simpa [okG] using h)
        · intro L g hg hi hd τ
          cases g
          all_goals first
            | exact absurd (hg 1 (by decide)) hi
            | (refine ⟨_, rfl, ?_⟩
               refine xo_mv rfl rfl rfl ?_
               exact xo_fin rfl)
        apply DrawG.pure (fun L g h => by cases g <;> first | exact fun j hj => List.mem_cons_of_mem _ (h j hj) | simpa [okG] using h)
        · intro L g hg hi hd τ
          cases g
          all_goals first
            | exact absurd (hg 2 (by decide)) hi
            | (refine ⟨_, rfl, ?_⟩
               refine xo_ia T_ rfl rfl rfl rfl rfl ⟨by omega, by omega⟩ rfl ?_
               exact xo_fin rfl)
        apply DrawG.pure (fun L g h => by cases g <;> first | exact fun j hj => List.mem_cons_of_mem _ (h j hj) | simpa [okG] using h)
        · intro L g hg hi hd τ
          cases g
          all_goals first
            | exact absurd (hg 3 (by decide)) hi
            | (refine ⟨_, rfl, ?_⟩
               refine xo_faR T_ rfl rfl rfl rfl rfl ?_
               exact xo_fin rfl)
        apply DrawG.pure (fun L g h => by cases g <;> first | exact fun j hj => List.mem_cons_of_mem _ (h j hj) | simpa [okG] using h)
        · intro L g hg hi hd τ
          cases g
          all_goals first
            | exact absurd (hg 4 (by decide)) hi
            | (refine ⟨_, rfl, ?_⟩
               refine xo_loadZ T_ (k := i * 3 + 2) rfl rfl rfl (ad3 _ _ _) (by repeat (first | exact List.Mem.head _ | apply List.Mem.tail | apply List.mem_append_right)) hcat rfl ?_
               exact xo_fin rfl)
        apply DrawG.pure (fun L g h => by cases g <;> first | exact fun j hj => List.mem_cons_of_mem _ (h j hj) | simpa [okG] using h)
        · intro L g hg hi hd τ
          cases g
          all_goals first
            | exact absurd (hg 5 (by decide)) hi
            | (refine ⟨_, rfl, ?_⟩
               refine xo_mv rfl rfl rfl ?_
               exact xo_fin rfl)
        apply DrawG.cons
        · intro L g hg hi hd τ
          rcases g with _ | b6 | ⟨b6, b7, c7⟩ | ⟨b6, b7, c7⟩
          · refine xo_bs0 T_ 1 rfl rfl rfl rfl (fun b6 => ?_)
            exact xo_nil fun a w1 ha hw1 => ⟨.s1 b6, ⟨List.mem_cons_self .., (by simpa using hg.2.1), (by simpa using hg.2.2)⟩, (fun k hk => vsG_same (fun e => absurd (e ▸ hk) hg.1) (fun e => absurd (e ▸ hk) hg.2.1)), ⟨_, rfl, ha⟩, hw1⟩
          · exact absurd hg.1 hi
          · exact absurd hg.1 hi
          · exact absurd (hg 6 (by decide)) hi
        apply DrawG.pure (fun L g h => by cases g <;> first | exact fun j hj => List.mem_cons_of_mem _ (h j hj) | simpa [okG] using h)
        · intro L g hg hi hd τ
          cases g
          all_goals first
            | exact absurd (hg 7 (by decide)) hi
            | (refine ⟨_, rfl, ?_⟩
               refine xo_mv rfl rfl rfl ?_
               exact xo_fin rfl)
        apply DrawG.pure (fun L g h => by cases g <;> first | exact fun j hj => List.mem_cons_of_mem _ (h j hj) | simpa [okG] using h)
        · intro L g hg hi hd τ
          cases g
          all_goals first
            | exact absurd (hg 8 (by decide)) hi
            | (refine ⟨_, rfl, ?_⟩
               refine xo_mv rfl rfl rfl ?_
               exact xo_fin rfl)
        apply DrawG.pure (fun L g h => by cases g <;> first | exact fun j hj => List.mem_cons_of_mem _ (h j hj) | simpa [okG] using h)
        · intro L g hg hi hd τ
          cases g
          all_goals first
            | exact absurd (hg 9 (by decide)) hi
            | (refine ⟨_, rfl, ?_⟩
               refine xo_ia T_ rfl rfl rfl rfl rfl ⟨by omega, by omega⟩ rfl ?_
               exact xo_fin rfl)
        apply DrawG.pure (fun L g h => by cases g <;> first | exact fun j hj => List.mem_cons_of_mem _ (h j hj) | simpa [okG] using h)
        · intro L g hg hi hd τ
          cases g
          all_goals first
            | exact absurd (hg 10 (by decide)) hi
            | (refine ⟨_, rfl, ?_⟩
               refine xo_faR T_ rfl rfl rfl rfl rfl ?_
               exact xo_fin rfl)
        apply DrawG.pure (fun L g h => by cases g <;> first | exact fun j hj => List.mem_cons_of_mem _ (h j hj) | simpa [okG] using h)
        · intro L g hg hi hd τ
          cases g
          all_goals first
            | exact absurd (hg 11 (by decide)) hi
            | (refine ⟨_, rfl, ?_⟩
               refine xo_loadZ T_ (k := i * 3 + 2) rfl rfl rfl (ad3 _ _ _) (by repeat (first | exact List.Mem.head _ | apply List.Mem.tail | apply List.mem_append_right)) hcat rfl ?_
               exact xo_fin rfl)
        apply DrawG.pure (fun L g h => by cases g <;> first | exact fun j hj => List.mem_cons_of_mem _ (h j hj) | simpa [okG] using h)
        · intro L g hg hi hd τ
          cases g
          all_goals first
            | exact absurd (hg 12 (by decide)) hi
            | (refine ⟨_, rfl, ?_⟩
               refine xo_mv rfl rfl rfl ?_
               exact xo_fin rfl)
        apply DrawG.pure (fun L g h => by cases g <;> first | exact fun j hj => List.mem_cons_of_mem _ (h j hj) | simpa [okG] using h)
        · intro L g hg hi hd τ
          cases g
          all_goals first
            | exact absurd (hg 13 (by decide)) hi
            | (refine ⟨_, rfl, ?_⟩
               refine xo_ia T_ rfl rfl rfl rfl rfl ⟨by omega, by omega⟩ rfl ?_
               exact xo_fin rfl)
        apply DrawG.pure (fun L g h => by cases g <;> first | exact fun j hj => List.mem_cons_of_mem _ (h j hj) | simpa [okG] using h)
        · intro L g hg hi hd τ
          cases g
          all_goals first
            | exact absurd (hg 14 (by decide)) hi
            | (refine ⟨_, rfl, ?_⟩
               refine xo_loadZ T_ (k := j) rfl rfl rfl (ad1 _ _) (by repeat (first | exact List.Mem.head _ | apply List.Mem.tail | apply List.mem_append_right)) hu1 rfl ?_
               exact xo_fin rfl)
        apply DrawG.cons
        · intro L g hg hi hd τ
          rcases g with _ | b6 | ⟨b6, b7, c7⟩ | ⟨b6, b7, c7⟩
          · exact absurd (hd 6 (by decide)) hg.1
          · refine xo_appE TR_ rfl rfl rfl rfl rfl rfl rfl rfl (by simp) hA4 (fun p e w1 hw1 k u hk => hw1.kx.cell (hi5 p e k u hk) (fun h => h)) (fun u hu => by obtain ⟨n, _, rfl⟩ := List.mem_map.1 hu; rfl) (by omega) rfl rfl (fun b7 c7 => ?_)
            exact xo_nil fun a w1 ha hw1 => ⟨.s2 b6 b7 c7, ⟨List.mem_cons_of_mem _ hg.1, List.mem_cons_self .., (by simpa using hg.2.2)⟩, (fun k hk => vsG_same (fun _ => rfl) (fun e => absurd (e ▸ hk) hg.2.1)), ⟨_, rfl, ha⟩, hw1⟩
          · exact absurd hg.2.1 hi
          · exact absurd (hg 15 (by decide)) hi
        apply DrawG.pure (fun L g h => by cases g <;> first | exact fun j hj => List.mem_cons_of_mem _ (h j hj) | simpa [okG] using h)
        · intro L g hg hi hd τ
          cases g
          all_goals first
            | exact absurd (hg 16 (by decide)) hi
            | (refine ⟨_, rfl, ?_⟩
               refine xo_ia T_ rfl rfl rfl rfl rfl ⟨by omega, by omega⟩ rfl ?_
               exact xo_fin rfl)
        apply DrawG.cons
        · intro L g hg hi hd τ
          rcases g with _ | b6 | ⟨b6, b7, c7⟩ | ⟨b6, b7, c7⟩
          · exact absurd (hd 6 (by decide)) hg.1
          · exact absurd (hd 15 (by decide)) hg.2.1
          · have h17 : ∀ k, k < 17 → k ∈ L := fun k hk => hd k (by revert k; decide)
            refine xo_storeZ T_ (k := j) rfl rfl rfl (ad1 _ _) rfl (by repeat (first | exact List.Mem.head _ | apply List.Mem.tail | apply List.mem_append_right)) rfl rfl (by omega) (Upd.tail Upd.head) rfl ?_
            exact xo_nil fun a w1 ha hw1 => ⟨.s3 b6 b7 c7, (fun k hk => by by_cases e : k = 17; · subst e; exact List.mem_cons_self ..
                                                                           · exact List.mem_cons_of_mem _ (h17 k (by omega))), (fun k hk => vsG_same (fun _ => rfl) (fun _ => ⟨rfl, rfl⟩)), ⟨undef, rfl, ha⟩, hw1⟩
          · exact absurd (hg 17 (by decide)) hi
        exact DrawG.nil
      intro L g hg hall
      rcases g with _ | b6 | ⟨b6, b7, c7⟩ | ⟨b6, b7, c7⟩
      · exact absurd (hall 6 (by decide)) hg.1
      · exact absurd (hall 15 (by decide)) hg.2.1
      · exact absurd (hall 17 (by decide)) hg.2.2
      with_reducible repeat (first | refine xq_then ?_ | refine xq_blockN ?_ | refine xq_scopeN ?_)
      with_reducible repeat refine xc_seq ?_
      with_reducible refine xc_region ?_
      refine xo_mv rfl rfl rfl ?_
      refine xo_add rfl rfl rfl (by omega) rfl ?_
      refine xo_asg rfl rfl rfl ?_
      with_reducible refine xo_nil ?_
      with_reducible repeat (first | refine xq_then ?_ | refine xq_blockN ?_ | refine xq_scopeN ?_)
      refine xq_perm ((List.Perm.swap _ _ _).trans (List.Perm.cons _ (List.Perm.swap _ _ _))) (xq_again _ _ _ _ _ (j + 1, (b7, true, orow 3 1 way.length c7 (way.map (.int .i64))) :: F', vs.set j (.slice (some ⟨b7, 0, none⟩) way.length c7)) ⟨by omega, by simpa using hvl2, fun e he => List.mem_cons_of_mem _ (hFF e he), fun k hk => ?_⟩ (by first | omega | (simp only; omega)) ⟨rfl, rfl, rfl, trivial⟩ (List.Sublist.refl _))
      simp only
      by_cases e : k = j
      · subst e
        rw [hway]
        exact ⟨_, List.getElem?_set_self (by omega), fun _ => ⟨b7, c7, rfl, List.mem_cons_self ..⟩, fun h => absurd h (by omega)⟩
      · obtain ⟨u, h1, h2, h3⟩ := hvs k hk
        exact ⟨u, by rw [List.getElem?_set_ne (fun q => e q.symm)]; exact h1, fun h => (h2 (by omega)).mono (fun e he => List.mem_cons_of_mem _ he), fun h => h3 (by omega)⟩
    · have hge : ¬ j < x.f2.length := by have := of_decide_eq_false h; omega
      with_reducible refine xc_exit ?_
      with_reducible repeat (first | refine xq_blockX ?_ | refine xq_thenE ?_ | refine xq_blockE rfl ?_ | refine xq_scopeE ?_)
      with_reducible repeat (first | refine xq_then ?_ | refine xq_blockN ?_ | refine xq_scopeN ?_)
      with_reducible repeat refine xc_seq ?_
      with_reducible refine xc_region ?_
      refine xo_mv rfl rfl rfl ?_
      refine xo_add rfl rfl rfl (by omega) rfl ?_
      refine xo_asg rfl rfl rfl ?_
      with_reducible refine xo_nil ?_
      with_reducible repeat (first | refine xq_then ?_ | refine xq_blockN ?_ | refine xq_scopeN ?_)
      refine xq_perm (List.Perm.swap _ _ _) (xq_again _ _ _ _ _ (i + 1, (b2, true, orow 26 1 x.f2.length cap2 vs) :: F', cells.set i (recC x (.slice (some ⟨b2, 0, none⟩) x.f2.length cap2))) ⟨hil, by simpa using hcl, fun k hk => ?_⟩ (by first | omega | (simp only; omega)) ⟨rfl, rfl, trivial⟩ (List.Sublist.refl _))
      simp only
      by_cases e : k = i
      · subst e
        rw [hx]
        refine ⟨_, List.getElem?_set_self (by omega), fun _ => ⟨b2, cap2, vs, rfl, List.mem_cons_self .., hvl2, fun k u hk hu => ?_⟩, fun h => absurd h (by omega)⟩
        obtain ⟨u', h1, h2, _⟩ := hvs k hk
        rw [hu] at h1
        cases h1
        exact (h2 (by omega)).mono (fun e he => List.mem_cons_of_mem _ he)
      · obtain ⟨v, h1, h2, h3⟩ := hcs k hk
        exact ⟨v, by rw [List.getElem?_set_ne (fun q => e q.symm)]; exact h1, fun h => (h2 (by omega)).mono (fun e he => List.mem_cons_of_mem _ (hFF e he)), fun h => h3 (by omega)⟩
  · have hge : ¬ i < r.length := by have := of_decide_eq_false h; omega
    with_reducible refine xc_exit ?_
    with_reducible repeat (first | refine xq_blockX ?_ | refine xq_thenE ?_ | refine xq_blockE rfl ?_ | refine xq_scopeE ?_)
    with_reducible repeat (first | refine xq_then ?_ | refine xq_blockN ?_ | refine xq_scopeN ?_)
    with_reducible repeat refine xc_seq ?_
    with_reducible refine xc_region ?_
    refine xo_mv rfl rfl rfl ?_
    refine xo_asg rfl rfl rfl ?_
    with_reducible refine xo_nil ?_
    with_reducible repeat (first | refine xq_then ?_ | refine xq_blockN ?_ | refine xq_scopeN ?_)
    with_reducible repeat refine xc_seq ?_
    with_reducible refine xc_ret ?_
    with_reducible repeat (first | refine xq_thenR ?_ | refine xq_blockR ?_ | refine xq_scopeR ?_)
    refine xq_ret1 rfl rfl fun w' hw => ?_
    obtain ⟨o, h1, h2⟩ := hw.bl _ (List.Mem.head _)
    have hcap : r.length ≤ cap := by obtain ⟨_, _, h5, _⟩ := h2; exact h5
    refine ⟨b, cap, rfl, hw.kx.below, hcap, C_row (d := recK) (cells := cells) (cap := cap) h1 (e := 43) (by rw [hcl]; exact h2) hcl hcl3 (fun j x cs hx hc => ?_) (by omega)⟩
    have hj : j < r.length := (List.getElem?_eq_some_iff.1 hx).1
    have hxd : r.getD j zRec = x := by simp [List.getD_eq_getElem?_getD, hx]
    obtain ⟨v, h3, h4, _⟩ := hcs j hj
    obtain ⟨hx6, hx8⟩ := hways j hj
    rw [hc] at h3
    cases h3
    have h5 := h4 (by omega)
    rw [hxd] at h5 hx6 hx8 ⊢
    obtain ⟨A3, c3, rfl, h6, h7⟩ := h5.C (hw.sub (List.sublist_cons_self _ _)) (by omega) (fun k hk => by have := hx8 k hk; omega)
    exact k43_mk w' x h6 h7
theorem twin_enters : ∀ args w, (callFunc 6 args).run Try.prog w = .ok (.enter 6 args) w := enters_of Try.func6 (by kernel_rfl) rfl
end Go.Proofs.Ytcmepdamemnbkaa
namespace Go.Proofs.Ytcmepdamemnbkaa
open Go.RowKit Go.Proofs.YtcmepdamemnbkaaW.PrintWords
set_option linter.unusedVariables false
set_option linter.unusedSimpArgs false
section
variable {P : Program} {ro : Option Nat} {n N : Nat} {ds : List Deferred} {w0 : World} {X : Nat → Prop} {Q : Exit → Act → World → Prop} {σ : Slots} {η : Hp} {ops rest : List Oper} {d : Option Tmp} {ty : TypeId} {pos : String} {aft : Array Edge} {g : Option (Nat × Bool)}
/-- a call behind which the world is a new base -/
theorem xo_callR {fo : Operand} {xs : List Operand} {ats : Array TypeId} {f : FuncId} {vs fs cs : List Value} (hg : gS ops σ g = some true) (hf : ev σ fo = some (.func (.func f) fs.toArray cs.toArray)) (ha_ : evs σ xs = some vs)
    (eg : ∀ args w, (callFunc f args).run P w = .ok (.enter f args) w) (hN : dstOK N d = true)
    (hc : ∀ w, WOK w0 X η w → Calls P f (fs ++ vs ++ cs).toArray w fun e w' => ∃ v, e = .returned v ∧ XO P ro n N ds w' XNone Q ops (putS d v σ) [] rest) :
    XO P ro n N ds w0 X Q ops σ η (⟨d, .call { callee := .value fo, args := xs.toArray, argTypes := ats }, ty, pos, aft, g⟩ :: rest) := by
  intro a w ha hw
  unfold wpListIn
  rw [if_pos (wanted_of ha (o := ⟨d, .call { callee := .value fo, args := xs.toArray, argTypes := ats }, ty, pos, aft, g⟩) hg)]
  refine ⟨fun _ _ => trivial, ?_⟩
  rw [show (wideR ro).round = ro from rfl, Oper.semAt_eq ro _ _ (fun c e => by cases e)]
  have hrun : (execOp a.eval ⟨d, .call { callee := .value fo, args := xs.toArray, argTypes := ats }, ty, pos, aft, g⟩).run P w = .ok (.enter f (fs ++ vs ++ cs).toArray) w := by
    simp [execOp, resolve, Deferred.ofValue, invoke, ha.ev hf, ha.evs ha_, eg]
  rw [hrun]
  refine ⟨(fun h => by cases h), callsIn_wideR ((hc w hw).mono ?_)⟩
  rintro e w' ⟨v, rfl, hk⟩
  exact hk _ _ (ha.put hN v) (WOK.start XNone w')
end
theorem trustTakes_enters : ∀ args w, (callFunc 9 args).run Try.prog w = .ok (.enter 9 args) w := enters_of Try.func9 (by kernel_rfl) rfl
theorem trustHolds_enters : ∀ args w, (callFunc 7 args).run Try.prog w = .ok (.enter 7 args) w := enters_of Try.func7 (by kernel_rfl) rfl
theorem sameLetters_enters : ∀ args w, (callFunc 15 args).run Try.prog w = .ok (.enter 15 args) w := enters_of Try.func15 (by kernel_rfl) rfl
theorem eq_tt {x : Int} : decide (x = x) = true := by simp
/-- two rows that are alike, of a call's results -/
theorem sameRows {w0 w : World} {X : Nat → Prop} {η : Hp} (hw : WOK w0 X η w) {rr rr2 : RowR} {xs : List Int} (hl : xs.length ≤ 1000000) (h1 : RowAt 3 0 w rr xs) (h2 : RowAt 3 0 w rr2 xs) :
    Calls Try.prog 13 ([] ++ [valR rr xs.length, valR rr2 xs.length] ++ []).toArray w fun e w' => e = .returned (.bool true) ∧ Below w.heap.size w w' := by
  obtain ⟨A, c, e1, _, hA⟩ := h1.C (by omega)
  obtain ⟨B, c2, e2, _, hB⟩ := h2.C (by omega)
  rw [e1, e2]
  exact sameInts_calls A B c c2 xs w hA hB
theorem letters_own {w0 w : World} {X : Nat → Prop} {η : Hp} (hw : WOK w0 X η w) {b cap : Nat} {l : List LetT} {cells : List (List Value)} (hm : (b, true, orow 65 4 l.length cap cells.flatten) ∈ η) (hl : cells.length = l.length) (hc : ∀ c ∈ cells, c.length = 4)
    (hK : ∀ (j : Nat) (x : LetT) (c : List Value), l[j]? = some x → cells[j]? = some c → c = letV x) (hlen : l.length ≤ 1000000) : Kd.C letK w (some ⟨b, 0, none⟩) l.length l := by
  obtain ⟨o, h1, h2⟩ := hw.bl _ hm
  refine C_row (d := letK) (cells := cells) (cap := cap) h1 (e := 65) (by rw [hl]; exact h2) hl hc (fun j x c hx hcx => ?_) (by omega)
  rw [hK j x c hx hcx]
  exact k65_mk w x
set_option maxHeartbeats 16000000 in
theorem trustHolds_law (A B : Option Addr) (c c' : Nat) (r : List RecT) (l : List LetT) (day id : Int) (w : World) (hr : Kd.C recK w A r.length r) (hl : Kd.C letK w B l.length l) (hk : Bytes r) (hkl : BytesL l) :
    Calls Try.prog 3 #[.slice A r.length c, .slice B l.length c', .int .i64 day, .int .i64 id] w fun e w' => e = .returned (.bool true) ∧ Below w.heap.size w w' := by
  refine x_calls (X := XNone) Try.func3 rfl rfl rfl ?_
  with_reducible repeat refine xc_seq ?_
  with_reducible refine xc_region ?_
  refine xo_asg rfl rfl rfl ?_
  with_reducible refine xo_nil ?_
  with_reducible repeat (first | refine xq_then ?_ | refine xq_blockN ?_ | refine xq_scopeN ?_)
  with_reducible repeat refine xc_seq ?_
  with_reducible refine xc_region ?_
  refine xo_mv rfl rfl rfl ?_
  refine xo_mv rfl rfl rfl ?_
  refine xo_call (fs := []) (cs := []) rfl rfl rfl great_enters rfl (fun w1 hw1 => (great_calls A B none c c' 0 0 r l w1 (Kd.C_below hr hw1.kx.below) (Kd.C_below hl hw1.kx.below)).mono ?_)
  rintro e w2 ⟨gb, rfl, hb, hgr⟩
  refine ⟨_, _, rfl, hw1.below hb, ?_⟩
  clear hb hw1
  with_reducible refine xo_nil ?_
  with_reducible repeat (first | refine xq_then ?_ | refine xq_blockN ?_ | refine xq_scopeN ?_)
  with_reducible repeat refine xc_seq ?_
  refine xc_cond rfl (fun h1 => ?_) (fun h1 => ?_)
  · with_reducible repeat refine xc_seq ?_
    with_reducible refine xc_region ?_
    refine xo_asg rfl rfl rfl ?_
    with_reducible refine xo_nil ?_
    with_reducible repeat (first | refine xq_then ?_ | refine xq_blockN ?_ | refine xq_scopeN ?_)
    with_reducible repeat refine xc_seq ?_
    with_reducible refine xc_ret ?_
    with_reducible repeat (first | refine xq_thenR ?_ | refine xq_blockR ?_ | refine xq_scopeR ?_)
    exact xq_ret1 rfl rfl fun w' hw => ⟨rfl, hw.kx.below⟩
  obtain ⟨hsm, hl30⟩ := hgr h1
  have hr13 := hsm.1
  with_reducible refine xc_skip ?_
  with_reducible repeat (first | refine xq_then ?_ | refine xq_blockN ?_ | refine xq_scopeN ?_)
  with_reducible repeat refine xc_seq ?_
  with_reducible refine xc_region ?_
  refine xo_mv rfl rfl rfl ?_
  refine xo_callR (fs := []) (cs := []) rfl rfl rfl twin_enters rfl (fun w1 hw1 => (twin_calls A c r w1 (Kd.C_below hr hw1.kx.below) hsm).mono ?_)
  rintro e W ⟨bt, capt, rfl, hb, hct, hrt⟩
  have hwW := (hw1.kx.then_below hb).below
  have hrW := Kd.C_below hr hwW
  have hlW := Kd.C_below hl hwW
  clear hb hw1 hr hl
  obtain ⟨cells, hcl1, hcl2, hcl3, hcl4⟩ := C_cells hlW (d := letK) (by decide)
  have hB0 : B = none → l.length = 0 := fun e => by
    subst e
    by_cases h : l.length = 0
    · exact h
    · obtain ⟨ad, e, _⟩ := hlW.2.2 (by omega)
      cases e
  refine ⟨_, rfl, ?_⟩
  refine xo_bs0 T_ 4 rfl rfl rfl rfl (fun b0 => ?_)
  refine xo_mv rfl rfl rfl ?_
  refine xo_appE TR_ rfl rfl rfl rfl rfl rfl rfl rfl (by rw [flat_len 4 cells hcl2, hcl1]) hB0 (fun p e w1 hw1 j u hj => hw1.kx.cell (hcl4 p e j u hj) (fun h => h)) (fun u hu => by obtain ⟨c, hc, hu⟩ := List.mem_flatten.1 hu; obtain ⟨j, hj, rfl⟩ := List.getElem_of_mem hc; exact letK.K_one (hcl3 j _ _ (List.getElem?_eq_getElem (by omega)) (List.getElem?_eq_getElem hj)) u hu) (by omega) rfl rfl (fun b3 cap3 => ?_)
  refine xo_asg rfl rfl rfl ?_
  refine xo_asg rfl rfl rfl ?_
  with_reducible refine xo_nil ?_
  with_reducible repeat (first | refine xq_then ?_ | refine xq_blockN ?_ | refine xq_scopeN ?_)
  have hlo : ∀ {η : Hp} {w1 : World}, WOK W XNone η w1 → (b3, true, orow 65 4 l.length cap3 cells.flatten) ∈ η → Kd.C letK w1 (some ⟨b3, 0, none⟩) l.length l := fun hw1 hm => letters_own hw1 hm hcl1 hcl2 (fun j x c hx hc => k65_open (hcl3 j x c hx hc)) (by omega)
  have hH : (holdsR r l day).length ≤ 1000000 := by
    unfold holdsR
    split
    · have := holdsF_len r (goneF r l day); omega
    · simp
  have hT : (takesR r l day id).length ≤ 1000000 := by
    unfold takesR
    split
    · have := holdsF_len r (goneF r l day)
      have h2 := List.length_filter_le (fun n => !decide (n ∈ holdsF r (insN id (goneF r l day)))) (holdsF r (goneF r l day))
      unfold takesF
      omega
    · simp
  with_reducible repeat refine xc_seq ?_
  with_reducible refine xc_region ?_
  refine xo_mv rfl rfl rfl ?_
  refine xo_mv rfl rfl rfl ?_
  refine xo_mv rfl rfl rfl ?_
  refine xo_call (fs := []) (cs := []) rfl rfl rfl trustHolds_enters rfl (fun w1 hw1 => (trustHolds_calls (some ⟨bt, 0, none⟩) (some ⟨b3, 0, none⟩) capt cap3 r l day w1 (Kd.C_below hrt hw1.kx.below) (hlo hw1 (by repeat (first | exact List.Mem.head _ | exact List.mem_append_left _ (List.Mem.head _) | apply List.mem_append_right | apply List.Mem.tail))) hk hkl).mono ?_)
  rintro e w2 ⟨r1, rfl, hrow, hb⟩
  have h01 := hrow.1
  refine ⟨_, _, rfl, hw1.row hb hrow, ?_⟩
  clear hrow hb hw1
  refine xo_mv rfl rfl rfl ?_
  refine xo_ext rfl rfl rfl rfl ?_
  refine xo_ext rfl rfl rfl rfl ?_
  refine xo_asg rfl rfl rfl ?_
  refine xo_asg rfl rfl rfl ?_
  with_reducible refine xo_nil ?_
  with_reducible repeat (first | refine xq_then ?_ | refine xq_blockN ?_ | refine xq_scopeN ?_)
  with_reducible repeat refine xc_seq ?_
  with_reducible refine xc_region ?_
  refine xo_mv rfl rfl rfl ?_
  refine xo_mv rfl rfl rfl ?_
  refine xo_mv rfl rfl rfl ?_
  refine xo_call (fs := []) (cs := []) rfl rfl rfl refHolds_enters rfl (fun w1 hw1 => (refHolds_calls A B c c' r l day w1 (Kd.C_below hrW hw1.kx.below) (Kd.C_below hlW hw1.kx.below) hk hkl).mono ?_)
  rintro e w2 ⟨r2, rfl, hrow, hb⟩
  have h02 := hrow.1
  refine ⟨_, _, rfl, hw1.row hb hrow, ?_⟩
  clear hrow hb hw1
  refine xo_mv rfl rfl rfl ?_
  refine xo_ext rfl rfl rfl rfl ?_
  refine xo_ext rfl rfl rfl rfl ?_
  refine xo_asg rfl rfl rfl ?_
  refine xo_asg rfl rfl rfl ?_
  with_reducible refine xo_nil ?_
  with_reducible repeat (first | refine xq_then ?_ | refine xq_blockN ?_ | refine xq_scopeN ?_)
  with_reducible repeat refine xc_seq ?_
  with_reducible refine xc_region ?_
  refine xo_mv rfl rfl rfl ?_
  refine xo_mv rfl rfl rfl ?_
  refine xo_mv rfl rfl rfl ?_
  refine xo_mv rfl rfl rfl ?_
  refine xo_call (fs := []) (cs := []) rfl rfl rfl trustTakes_enters rfl (fun w1 hw1 => (trustTakes_calls (some ⟨bt, 0, none⟩) (some ⟨b3, 0, none⟩) capt cap3 r l day id w1 (Kd.C_below hrt hw1.kx.below) (hlo hw1 (by repeat (first | exact List.Mem.head _ | exact List.mem_append_left _ (List.Mem.head _) | apply List.mem_append_right | apply List.Mem.tail))) hk hkl).mono ?_)
  rintro e w2 ⟨r3, rfl, hrow, hb⟩
  have h03 := hrow.1
  refine ⟨_, _, rfl, hw1.row hb hrow, ?_⟩
  clear hrow hb hw1
  refine xo_mv rfl rfl rfl ?_
  refine xo_ext rfl rfl rfl rfl ?_
  refine xo_ext rfl rfl rfl rfl ?_
  refine xo_asg rfl rfl rfl ?_
  refine xo_asg rfl rfl rfl ?_
  with_reducible refine xo_nil ?_
  with_reducible repeat (first | refine xq_then ?_ | refine xq_blockN ?_ | refine xq_scopeN ?_)
  with_reducible repeat refine xc_seq ?_
  with_reducible refine xc_region ?_
  refine xo_mv rfl rfl rfl ?_
  refine xo_mv rfl rfl rfl ?_
  refine xo_mv rfl rfl rfl ?_
  refine xo_mv rfl rfl rfl ?_
  refine xo_call (fs := []) (cs := []) rfl rfl rfl refTakes_enters rfl (fun w1 hw1 => (refTakes_calls A B c c' r l day id w1 (Kd.C_below hrW hw1.kx.below) (Kd.C_below hlW hw1.kx.below) hk hkl).mono ?_)
  rintro e w2 ⟨r4, rfl, hrow, hb⟩
  have h04 := hrow.1
  refine ⟨_, _, rfl, hw1.row hb hrow, ?_⟩
  clear hrow hb hw1
  refine xo_mv rfl rfl rfl ?_
  refine xo_ext rfl rfl rfl rfl ?_
  refine xo_ext rfl rfl rfl rfl ?_
  refine xo_asg rfl rfl rfl ?_
  refine xo_asg rfl rfl rfl ?_
  with_reducible refine xo_nil ?_
  with_reducible repeat (first | refine xq_then ?_ | refine xq_blockN ?_ | refine xq_scopeN ?_)
  with_reducible repeat refine xc_seq ?_
  with_reducible refine xc_region ?_
  refine xo_mv rfl rfl rfl ?_
  refine xo_mv rfl rfl rfl ?_
  refine xo_callB (fs := []) (cs := []) rfl rfl rfl check_enters rfl (fun w1 hw1 => check_calls (some ⟨bt, 0, none⟩) (some ⟨b3, 0, none⟩) capt cap3 r l w1 (Kd.C_below hrt hw1.kx.below) (hlo hw1 (by repeat (first | exact List.Mem.head _ | exact List.mem_append_left _ (List.Mem.head _) | apply List.mem_append_right | apply List.Mem.tail))) hk hkl) ?_
  refine xo_mv rfl rfl rfl ?_
  refine xo_mv rfl rfl rfl ?_
  refine xo_callB (fs := []) (cs := []) rfl rfl rfl refCheck_enters rfl (fun w1 hw1 => refCheck_calls A B c c' r l w1 (Kd.C_below hrW hw1.kx.below) (Kd.C_below hlW hw1.kx.below) hk hkl) ?_
  refine xo_eql rfl rfl rfl rfl ?_
  refine xo_mv rfl rfl rfl ?_
  refine xo_as (i := 64) rfl (congrArg Value.bool eq_tt) ?_
  first
    | refine xo_not rfl rfl ?_
    | (refine xo_mv rfl rfl rfl ?_)
  first
    | refine xo_not rfl rfl ?_
    | (refine xo_mv rfl rfl rfl ?_)
  first
    | refine xo_not rfl rfl ?_
    | (refine xo_callB (fs := []) (cs := []) rfl rfl rfl sameInts_enters rfl (fun w1 hw1 => sameRows hw1 hH (hw1.rowAt h01 (fun p hp => by subst hp; exact (by repeat (first | exact List.Mem.head _ | exact List.mem_append_left _ (List.Mem.head _) | apply List.mem_append_right | apply List.Mem.tail)))) (hw1.rowAt h02 (fun p hp => by subst hp; exact (by repeat (first | exact List.Mem.head _ | exact List.mem_append_left _ (List.Mem.head _) | apply List.mem_append_right | apply List.Mem.tail))))) ?_)
  first | refine xo_pickT rfl rfl rfl rfl ?_ | refine xo_pickF rfl rfl rfl rfl ?_
  refine xo_mv rfl rfl rfl ?_
  first
    | refine xo_not rfl rfl ?_
    | (refine xo_mv rfl rfl rfl ?_)
  first
    | refine xo_not rfl rfl ?_
    | (refine xo_mv rfl rfl rfl ?_)
  first
    | refine xo_not rfl rfl ?_
    | (refine xo_eql rfl rfl rfl rfl ?_)
  first | refine xo_pickT rfl rfl rfl rfl ?_ | refine xo_pickF rfl rfl rfl rfl ?_
  refine xo_mv rfl rfl rfl ?_
  refine xo_as (i := 74) rfl (congrArg Value.bool eq_tt) ?_
  first
    | refine xo_not rfl rfl ?_
    | (refine xo_mv rfl rfl rfl ?_)
  first
    | refine xo_not rfl rfl ?_
    | (refine xo_mv rfl rfl rfl ?_)
  first
    | refine xo_not rfl rfl ?_
    | (refine xo_callB (fs := []) (cs := []) rfl rfl rfl sameInts_enters rfl (fun w1 hw1 => sameRows hw1 hT (hw1.rowAt h03 (fun p hp => by subst hp; exact (by repeat (first | exact List.Mem.head _ | exact List.mem_append_left _ (List.Mem.head _) | apply List.mem_append_right | apply List.Mem.tail)))) (hw1.rowAt h04 (fun p hp => by subst hp; exact (by repeat (first | exact List.Mem.head _ | exact List.mem_append_left _ (List.Mem.head _) | apply List.mem_append_right | apply List.Mem.tail))))) ?_)
  first | refine xo_pickT rfl rfl rfl rfl ?_ | refine xo_pickF rfl rfl rfl rfl ?_
  refine xo_mv rfl rfl rfl ?_
  first
    | refine xo_not rfl rfl ?_
    | (refine xo_mv rfl rfl rfl ?_)
  first
    | refine xo_not rfl rfl ?_
    | (refine xo_mv rfl rfl rfl ?_)
  first
    | refine xo_not rfl rfl ?_
    | (refine xo_eql rfl rfl rfl rfl ?_)
  first | refine xo_pickT rfl rfl rfl rfl ?_ | refine xo_pickF rfl rfl rfl rfl ?_
  refine xo_mv rfl rfl rfl ?_
  refine xo_as (i := 84) rfl (congrArg Value.bool eq_tt) ?_
  first
    | refine xo_not rfl rfl ?_
    | (refine xo_mv rfl rfl rfl ?_)
  first
    | refine xo_not rfl rfl ?_
    | (refine xo_mv rfl rfl rfl ?_)
  first
    | refine xo_not rfl rfl ?_
    | (refine xo_callB (fs := []) (cs := []) rfl rfl rfl same_enters rfl (fun w1 hw1 => same_calls (some ⟨bt, 0, none⟩) A capt c r w1 (Kd.C_below hrt hw1.kx.below) (Kd.C_below hrW hw1.kx.below)) ?_)
  first | refine xo_pickT rfl rfl rfl rfl ?_ | refine xo_pickF rfl rfl rfl rfl ?_
  refine xo_mv rfl rfl rfl ?_
  first
    | refine xo_not rfl rfl ?_
    | (refine xo_mv rfl rfl rfl ?_)
  first
    | refine xo_not rfl rfl ?_
    | (refine xo_mv rfl rfl rfl ?_)
  first
    | refine xo_not rfl rfl ?_
    | (refine xo_callB (fs := []) (cs := []) rfl rfl rfl sameLetters_enters rfl (fun w1 hw1 => sameLetters_calls (some ⟨b3, 0, none⟩) B cap3 c' l w1 (hlo hw1 (by repeat (first | exact List.Mem.head _ | exact List.mem_append_left _ (List.Mem.head _) | apply List.mem_append_right | apply List.Mem.tail))) (Kd.C_below hlW hw1.kx.below)) ?_)
  first | refine xo_pickT rfl rfl rfl rfl ?_ | refine xo_pickF rfl rfl rfl rfl ?_
  refine xo_asg rfl rfl rfl ?_
  with_reducible refine xo_nil ?_
  with_reducible repeat (first | refine xq_then ?_ | refine xq_blockN ?_ | refine xq_scopeN ?_)
  with_reducible repeat refine xc_seq ?_
  with_reducible refine xc_ret ?_
  with_reducible repeat (first | refine xq_thenR ?_ | refine xq_blockR ?_ | refine xq_scopeR ?_)
  refine xq_ret1 rfl rfl fun w' hw => ⟨rfl, ?_⟩
  have h1 := hw.kx.below
  have h2 : Kx XNone w W := Kx.of_below hwW
  exact (h2.then_below h1).below
theorem u8_of {n : Int} (h : (Lit.int .u8 n).wf = true) : 0 ≤ n ∧ n ≤ 255 := by
  simp only [Lit.wf, Bool.and_eq_true, decide_eq_true_eq] at h
  exact h
end Go.Proofs.Ytcmepdamemnbkaa
namespace Go.Proofs.Ytcmepdamemnbkaa
open Go.Shelf Go.RowKit
set_option maxRecDepth 100000
def ren189 : Ren := ⟨fun n => bif Nat.beq n 125 then 65 else bif Nat.beq n 128 then 76 else bif Nat.beq n 129 then 77 else bif Nat.beq n 189 then 57 else bif Nat.beq n 215 then 66 else bif Nat.beq n 216 then 73 else bif Nat.beq n 257 then 64 else bif Nat.beq n 294 then 67 else bif Nat.beq n 295 then 68 else bif Nat.beq n 296 then 69 else bif Nat.beq n 297 then 70 else bif Nat.beq n 298 then 71 else bif Nat.beq n 299 then 72 else bif Nat.beq n 300 then 74 else bif Nat.beq n 301 then 75 else bif Nat.beq n 328 then 78 else bif Nat.beq n 329 then 79 else bif Nat.beq n 330 then 80 else bif Nat.beq n 331 then 81 else bif Nat.beq n 332 then 82 else bif Nat.beq n 343 then 83 else n, fun n => bif Nat.beq n 0 then 0 else bif Nat.beq n 3 then 3 else bif Nat.beq n 4 then 4 else bif Nat.beq n 5 then 5 else bif Nat.beq n 9 then 9 else bif Nat.beq n 28 then 26 else bif Nat.beq n 46 then 95 else bif Nat.beq n 51 then 106 else bif Nat.beq n 53 then 108 else bif Nat.beq n 131 then 103 else bif Nat.beq n 182 then 97 else bif Nat.beq n 183 then 98 else bif Nat.beq n 218 then 109 else bif Nat.beq n 222 then 113 else bif Nat.beq n 228 then 115 else bif Nat.beq n 229 then 116 else n, fun n => n⟩
theorem lays189 : Lays.n189 Try.prog ren189 where
  mixed := T_.mixed
  f125 := by kernel_rfl
  f128 := by kernel_rfl
  f129 := by kernel_rfl
  f189 := by kernel_rfl
  f215 := by kernel_rfl
  f216 := by kernel_rfl
  f257 := by kernel_rfl
  f294 := by kernel_rfl
  f295 := by kernel_rfl
  f296 := by kernel_rfl
  f297 := by kernel_rfl
  f298 := by kernel_rfl
  f299 := by kernel_rfl
  f300 := by kernel_rfl
  f301 := by kernel_rfl
  f328 := by kernel_rfl
  f329 := by kernel_rfl
  f330 := by kernel_rfl
  f331 := by kernel_rfl
  f332 := by kernel_rfl
  f343 := by kernel_rfl
  t0 := by kernel_rfl
  a0 := fun w => by kernel_rfl
  z0 := fun w => by kernel_rfl
  v0 := fun w => by kernel_rfl
  t3 := by kernel_rfl
  a3 := fun w => by kernel_rfl
  z3 := fun w => by kernel_rfl
  v3 := fun w => by kernel_rfl
  t4 := by kernel_rfl
  a4 := fun w => by kernel_rfl
  z4 := fun w => by kernel_rfl
  v4 := fun w => by kernel_rfl
  t5 := by kernel_rfl
  a5 := fun w => by kernel_rfl
  z5 := fun w => by kernel_rfl
  v5 := fun w => by kernel_rfl
  t9 := by kernel_rfl
  a9 := fun w => by kernel_rfl
  z9 := fun w => by kernel_rfl
  v9 := fun w => by kernel_rfl
  t28 := by kernel_rfl
  a28 := fun w => by kernel_rfl
  z28 := fun w => by kernel_rfl
  v28 := fun w => by kernel_rfl
  t46 := by kernel_rfl
  a46 := fun w => by kernel_rfl
  z46 := fun w => by kernel_rfl
  v46 := fun w => by kernel_rfl
  t51 := by kernel_rfl
  a51 := fun w => by kernel_rfl
  z51 := fun w => by kernel_rfl
  v51 := fun w => by kernel_rfl
  t53 := by kernel_rfl
  a53 := fun w => by kernel_rfl
  z53 := fun w => by kernel_rfl
  v53 := fun w => by kernel_rfl
  t131 := by kernel_rfl
  a131 := fun w => by kernel_rfl
  z131 := fun w => by kernel_rfl
  v131 := fun w => by kernel_rfl
  t182 := by kernel_rfl
  a182 := fun w => by kernel_rfl
  z182 := fun w => by kernel_rfl
  v182 := fun w => by kernel_rfl
  t183 := by kernel_rfl
  a183 := fun w => by kernel_rfl
  z183 := fun w => by kernel_rfl
  v183 := fun w => by kernel_rfl
  t218 := by kernel_rfl
  a218 := fun w => by kernel_rfl
  z218 := fun w => by kernel_rfl
  v218 := fun w => by kernel_rfl
  t222 := by kernel_rfl
  a222 := fun w => by kernel_rfl
  z222 := fun w => by kernel_rfl
  v222 := fun w => by kernel_rfl
  t228 := by kernel_rfl
  a228 := fun w => by kernel_rfl
  z228 := fun w => by kernel_rfl
  v228 := fun w => by kernel_rfl
  t229 := by kernel_rfl
  a229 := fun w => by kernel_rfl
  z229 := fun w => by kernel_rfl
  v229 := fun w => by kernel_rfl
end Go.Proofs.Ytcmepdamemnbkaa
namespace Go.Proofs.Ytcmepdamemnbkaa
open Go.RowKit Go.Proofs.YtcmepdamemnbkaaW.PrintWords
set_option linter.unusedVariables false
set_option linter.unusedSimpArgs false
theorem pow62 {m : Nat} (h : m ≤ 61) : (2 : Int) ^ m ≤ 2305843009213693952 := by
  have h1 : (2 : Nat) ^ m ≤ 2 ^ 61 := Nat.pow_le_pow_right (by omega) h
  have h2 : ((2 ^ m : Nat) : Int) ≤ ((2 ^ 61 : Nat) : Int) := by exact_mod_cast h1
  simpa using h2
section
variable {P : Program} {ro : Option Nat} {n N : Nat} {ds : List Deferred} {w0 : World} {X : Nat → Prop} {Q : Exit → Act → World → Prop} {σ : Slots} {η : Hp} {ops rest : List Oper} {d : Option Tmp} {ty t t' : TypeId} {pos : String} {aft : Array Edge} {g : Option (Nat × Bool)}
theorem xo_shl1 {x y : Operand} {m : Nat} (hg : gS ops σ g = some true) (hx : ev σ x = some (.int .i64 1)) (hy : ev σ y = some (.int .i64 (m : Int))) (hm : m ≤ 61) (hN : dstOK N d = true)
    (h : XO P ro n N ds w0 X Q ops (putS d (.int .i64 ((2 ^ m : Nat) : Int)) σ) η rest) : XO P ro n N ds w0 X Q ops σ η (⟨d, .binOp .shl t x y t', ty, pos, aft, g⟩ :: rest) :=
  xo_val _ rfl hg hN (fun a w ha hw => by
    have h1 : min (m : Int).toNat IntKind.i64.bits = m := by simp [IntKind.bits]; omega
    have h2 := pow62 hm
    have h3 : (0 : Int) < 2 ^ m := Int.pow_pos (by omega)
    have h4 : IntKind.i64.wrap (2 ^ m) = (2 : Int) ^ m := IntWalk.i64_in _ ⟨by omega, by omega⟩
    simp only [execOp, ha.ev hx, ha.ev hy, eqGuard_shl, binOp_shl, Op.shift, Sem.run_bind, Sem.run_pure, Result.andThen_ok]
    rw [if_neg (by omega), h1]
    simp [h4]) h
theorem xo_shr {x y : Operand} {k m : Nat} (hg : gS ops σ g = some true) (hx : ev σ x = some (.int .i64 (k : Int))) (hy : ev σ y = some (.int .i64 (m : Int))) (hm : m ≤ 61) (hN : dstOK N d = true)
    (h : XO P ro n N ds w0 X Q ops (putS d (.int .i64 ((k / 2 ^ m : Nat) : Int)) σ) η rest) : XO P ro n N ds w0 X Q ops σ η (⟨d, .binOp .shr t x y t', ty, pos, aft, g⟩ :: rest) :=
  xo_val _ rfl hg hN (fun a w ha hw => by
    have h1 : min (m : Int).toNat IntKind.i64.bits = m := by simp [IntKind.bits]; omega
    have h3 : Int.fdiv (k : Int) (2 ^ m) = ((k / 2 ^ m : Nat) : Int) := by
      rw [Int.fdiv_eq_ediv_of_nonneg _ (by exact Int.le_of_lt (Int.pow_pos (by omega)))]
      simp
    simp only [execOp, ha.ev hx, ha.ev hy, eqGuard_shr, binOp_shr, Op.shift, Sem.run_bind, Sem.run_pure, Result.andThen_ok]
    rw [if_neg (by omega), h1]
    simp [h3]) h
theorem xo_and1 {x y : Operand} {k : Nat} (hg : gS ops σ g = some true) (hx : ev σ x = some (.int .i64 (k : Int))) (hy : ev σ y = some (.int .i64 1)) (hk : k < 9223372036854775808) (hN : dstOK N d = true)
    (h : XO P ro n N ds w0 X Q ops (putS d (.int .i64 ((k % 2 : Nat) : Int)) σ) η rest) : XO P ro n N ds w0 X Q ops σ η (⟨d, .binOp .and t x y t', ty, pos, aft, g⟩ :: rest) :=
  xo_val _ rfl hg hN (fun a w ha hw => by
    simp only [execOp, ha.ev hx, ha.ev hy, eqGuard_and, binOp_and, Op.intBits, Sem.run_bind, Sem.run_pure, Result.andThen_ok]
    have h1 : (BitVec.ofInt IntKind.i64.bits (k : Int) &&& BitVec.ofInt IntKind.i64.bits 1).toNat = k % 2 := by
      rw [BitVec.toNat_and]
      simp only [BitVec.toNat_ofInt, IntKind.bits]
      rw [show ((k : Int) % ((2 ^ 64 : Nat) : Int)).toNat = k by omega, show ((1 : Int) % ((2 ^ 64 : Nat) : Int)).toNat = 1 by decide, Nat.and_one_is_mod]
    have h2 : IntKind.i64.wrap ((k % 2 : Nat) : Int) = ((k % 2 : Nat) : Int) := IntWalk.i64_in _ ⟨by omega, by omega⟩
    rw [h1, h2]) h
end
/-- a row of whatever cells that a call made -/
def RowV (e : TypeId) (base : Nat) (w : World) (r : RowR) (xs : List Value) : Prop := (r = none → xs = []) ∧ ∀ p, r = some p → base ≤ p.1 ∧ ∃ o, w.heap[p.1]? = some o ∧ orow e 1 xs.length p.2 xs o
theorem WOK.rowV {w0 : World} {X : Nat → Prop} {η : Hp} {w w' : World} (h : WOK w0 X η w) (hb : Below w.heap.size w w') {e : TypeId} {r : RowR} {xs : List Value} (hr : RowV e w.heap.size w' r xs) : WOK w0 X (hpR e 1 r xs.length xs ++ η) w' := by
  cases r with
  | none => exact h.below hb
  | some p =>
    obtain ⟨h1, o, h2, h3⟩ := hr.2 p rfl
    exact h.more hb h1 h2 h3
theorem RowV.of {w0 : World} {η : Hp} {w : World} {e : TypeId} {r : RowR} {xs : List Value} (h : WOK w0 XNone (hpR e 1 r xs.length xs ++ η) w) (h0 : r = none → xs = []) : RowV e w0.heap.size w r xs := by
  refine ⟨h0, fun p hp => ?_⟩
  subst hp
  exact ⟨h.own (List.Mem.head _), h.bl (p.1, true, orow e 1 xs.length p.2 xs) (List.Mem.head _)⟩
end Go.Proofs.Ytcmepdamemnbkaa
namespace Go.Proofs.Ytcmepdamemnbkaa
open Go.RowKit Go.MapKept
set_option linter.unusedVariables false
set_option linter.unusedSimpArgs false
theorem erase_kv (x : Int) : ∀ (l : List (Int × Value)) (es : List MapEntry) (i : Nat) (j : Nat) (u : Value), es.map kvE = l.map kvI → Instr.findNow (.int .i64) (.int .i64 x) es i = some (some (i + j, u)) →
    (es.eraseIdx j).map kvE = (imDel x l).map kvI
  | [], [], i, j, u, _, h => by simp [Instr.findNow] at h
  | [], _ :: _, _, _, _, h, _ => by simp at h
  | _ :: _, [], _, _, _, h, _ => by simp at h
  | p :: r, e :: es, i, j, u, h, hf => by
    simp only [List.map_cons, List.cons.injEq] at h
    obtain ⟨h1, h2⟩ := h
    have hk : e.key = .int .i64 p.1 := congrArg Prod.fst h1
    by_cases hx : p.1 = x
    · have : j = 0 := by
        simp [Instr.findNow, Instr.sameNow, hk, hx] at hf
        omega
      subst this
      simp [imDel, hx, h2]
    · have hx' : (x == p.1) = false := by simpa using fun h => hx h.symm
      simp only [Instr.findNow, Instr.sameNow, hk, ↓reduceIte, hx'] at hf
      cases j with
      | zero =>
        exfalso
        rcases findNow_l x r es (i + 1) h2 with ⟨_, h3⟩ | ⟨j', v', e', _, h3, _, _⟩
        · rw [h3] at hf; simp at hf
        · rw [h3] at hf; simp at hf; omega
      | succ j =>
        have ih := erase_kv x r es (i + 1) j u h2 (by rw [hf]; congr 2; simp; omega)
        simp [imDel, hx, h1, ih]
theorem imDel_none (x : Int) : ∀ l : List (Int × Value), imGet x l = none → imDel x l = l
  | [], _ => rfl
  | p :: r, h => by
    by_cases hx : p.1 = x
    · simp [imGet, hx] at h
    · simp only [imGet, hx, if_false] at h
      simp only [imDel, hx, if_false]
      rw [imDel_none x r h]
theorem imDel_sub (x : Int) : ∀ l : List (Int × Value), (imDel x l).Sublist l
  | [] => List.Sublist.refl _
  | p :: r => by
    by_cases hx : p.1 = x
    · simp only [imDel, hx, if_true]; exact List.sublist_cons_self _ _
    · simp only [imDel, hx, if_false]; exact (imDel_sub x r).cons_cons p
section
variable {P : Program} {w : World} {t k e : TypeId} {b : Nat} {l : List (Int × Value)}
theorem IMap.del (h : IMap w b l) (ht : P.underlying t = some (.map k e)) (hk : P.underlying k = some (.int .i64)) (ty tk : TypeId) (x : Int) :
    ∃ o : Obj, (Builtin.delete_ #[t, tk] ty #[.map (some b), .int .i64 x]).run P w = .ok (.tuple #[]) (w.putObj b o) ∧ IMap (w.putObj b o) b (imDel x l) := by
  have hlt := h.lt
  obtain ⟨es, c, hb, hE⟩ := h
  have hkey : IsKey (.int .i64) (.int .i64 x) := rfl
  rcases findNow_l x l es.toList 0 hE.is with ⟨h1, h2⟩ | ⟨j, u, e', h1, h2, h3, h4⟩
  · refine ⟨.map es c, ?_, _, _, World.putObj_heap_same hlt, by rw [imDel_none x l h1]; exact hE⟩
    simp [Builtin.delete_, run_underlying ht, MapKept.run_getObj_map hb, run_checkKey hk hkey, run_findKey hk h2, MapKept.run_setObj_map _ hb, Result.andThen, World.putObj]
  · refine ⟨.map (es.eraseIdxIfInBounds j) c, ?_, _, _, World.putObj_heap_same hlt, ?_⟩
    · simp [Builtin.delete_, run_underlying ht, MapKept.run_getObj_map hb, run_checkKey hk hkey, run_findKey hk h2, MapKept.run_setObj_map _ hb, Result.andThen, World.putObj]
    · have htl : (es.eraseIdxIfInBounds j).toList = es.toList.eraseIdx j := by simp
      have hsub : ((es.eraseIdxIfInBounds j).toList).Sublist es.toList := by rw [htl]; exact List.eraseIdx_sublist ..
      exact ⟨by rw [htl]; exact erase_kv x l es.toList 0 j u hE.is (by simpa using h2), hE.keys.sublist ((imDel_sub x l).map _), fun e he => hE.born e (hsub.subset he), hE.once.sublist (hsub.map _)⟩
end
/-- a set without one of its keys -/
def delN (x : Int) (s : List Int) : List Int := s.erase x
theorem imDel_setV (x : Int) : ∀ s : List Int, imDel x (setV s) = setV (delN x s)
  | [] => rfl
  | y :: s => by
    have ih := imDel_setV x s
    unfold setV delN at *
    by_cases e : y = x
    · subst e; simp [imDel]
    · rw [List.erase_cons_tail (by simpa using e)]
      simp only [List.map_cons, imDel, e, if_false, ih]
section
variable {P : Program} {ro : Option Nat} {n N : Nat} {ds : List Deferred} {w0 : World} {X : Nat → Prop} {Q : Exit → Act → World → Prop} {σ : Slots} {η : Hp} {ops rest : List Oper} {d : Option Tmp} {ty : TypeId} {pos : String} {aft : Array Edge} {g : Option (Nat × Bool)}
theorem xo_sdel (T : Tys P) {t tk te tk' : TypeId} {m x : Operand} {b : Nat} {s : List Int} {k : Int} {η' : Hp} (hg : gS ops σ g = some true) (ht : look t T.mp = some (tk, te)) (hk : look tk T.ik = some .i64) (hm : ev σ m = some (.map (some b))) (hx : ev σ x = some (.int .i64 k)) (hb : (b, true, hmap (setV s)) ∈ η)
    (hU : Upd b (hmap (setV (delN k s))) η η') (hN : dstOK N d = true) (h : XO P ro n N ds w0 X Q ops (putS d (.tuple #[]) σ) η' rest) :
    XO P ro n N ds w0 X Q ops σ η (⟨d, .call { callee := .builtin .delete, args := #[m, x], argTypes := #[t, tk'] }, ty, pos, aft, g⟩ :: rest) :=
  xo_base rfl hg fun a w ha hw => by
    obtain ⟨o, h1, h2⟩ := (hw.imap hb).del (T.hmp _ (look_mem ht)) (T.hik _ (look_mem hk)) ty tk' k
    rw [imDel_setV] at h2
    obtain ⟨o', h3, h4⟩ := hmap_of h2
    refine ⟨.value (.tuple #[]), _, _, ?_, .inl rfl, h _ _ (ha.put hN _) (hw.upd hU (OneB.putObj w b o) h3 h4)⟩
    simp only [execOp, resolve, invoke, builtin, Sem.run_bind, Sem.run_pure, Result.andThen_ok, List.map_toArray, List.map_cons, List.map_nil, ha.ev hm, ha.ev hx, h1]
end
end Go.Proofs.Ytcmepdamemnbkaa
namespace Go.Proofs.Ytcmepdamemnbkaa
open Go.RowKit
set_option linter.unusedVariables false
set_option linter.unusedSimpArgs false
/-- an iterator: what it yields is one of S, of at most M -/
def IterS (P : Program) (g : Nat) (cs : List Value) (wB : World) (need : Nat → Prop) (S : List Int → Prop) (M : Nat) : Prop :=
  ∀ (w : World), wB.heap.size ≤ w.heap.size → (∀ k, need k → w.heap[k]? = wB.heap[k]?) → ∀ (K : Nat → Prop), (∀ k, need k → K k) → ∀ m : Nat,
    SeqStopsK Fence.wide m P g cs.toArray (fun x : Int => #[.int .i64 x]) (KpK K w.heap.size) S (fun _ => True) M w
section
variable {P : Program} {n N : Nat} {ds : List Deferred} {w0 : World} {Q : Exit → Act → World → Prop} {σ : Slots} {η : Hp}
theorem xc_rangeS {go : Operand} {p : Tmp} {assign body : Code} {gf : Nat} {cs : List Value} {S : List Int → Prop} {M : Nat} (hn : 3 ≤ n) (hg : ev σ go = some (.func (.func gf) #[] cs.toArray)) (eg : ∀ args w, (callFunc gf args).run P w = .ok (.enter gf args) w) (hp : Nat.blt p N = true)
    (K : Nat → Prop) (hKlt : ∀ w, WOK w0 XNone η w → ∀ k, K k → k < w.heap.size) (hseq : ∀ w, WOK w0 XNone η w → SeqStopsK Fence.wide (n - 1) P gf cs.toArray (fun x : Int => #[.int .i64 x]) (KpK K w.heap.size) S (fun _ => True) M w)
    {γ : Type} (C : List Int → γ → Prop) (H : List Int → γ → Hp) (g0 : γ) (hC0 : C [] g0) (hH0 : List.Sublist (H [] g0) η)
    (hcell : ∀ ys g, C ys g → ∀ e ∈ H ys g, (∀ o, e.2.2 o → o.isCells = true) ∨ ∃ e' ∈ η, e'.1 = e.1) (hwr : ∀ ys g, C ys g → ∀ e ∈ H ys g, e.2.1 = true → ¬ K e.1) (S1 : Int → Slots)
    (hassign : ∀ l x W, XC P (some l) (n - 1 - 1) N [] W XNone (Exit.then (fun a w => SOK N [] (S1 x) a ∧ Kx XNone W w) (fun _ _ _ => False)) ((p, .int .i64 x) :: σ) [] assign)
    (hbody : ∀ l ys x g W, C ys g → ys.length < M → WOK w0 XNone (H ys g) W → XC P (some l) (n - 1 - 1) N [] W (XW (H ys g)) (RoundPost N W (H ys g) fun w => ∃ g', C (ys ++ [x]) g' ∧ WOK W (XW (H ys g)) (H (ys ++ [x]) g') w) (S1 x) (H ys g) body)
    (hdone : ∀ D xs g, S xs → C xs g → XQ N (mark_ D :: ds) w0 XNone Q .normal σ ((D, true, hdef) :: H xs g)) : XC P none n N ds w0 XNone Q σ η (.rangeFunc go #[p] assign body) := by
  intro a w ha hw
  have hlt : ∀ e ∈ η, e.1 < w.heap.size := fun e he => hw.lt he
  have hsz := hw.kx.size
  -- the relation abides what the loop's own records do
  have hI : OwnFrom w.heap.size (fun (ys : List Int) W => w.heap.size ≤ W.heap.size ∧ ∃ g, C ys g ∧ WOK w0 XNone (H ys g) W) := by
    rintro ys A B row ⟨hszA, g, hg', hA⟩ hgr hrow
    have hne : ∀ e ∈ H ys g, some e.1 ≠ row := fun e he q => by
      obtain ⟨h1, o, h2, h3⟩ := hrow e.1 q.symm
      obtain ⟨o', h4, h5⟩ := hA.bl e he
      rw [h4] at h2
      cases h2
      rcases hcell ys g hg' e he with h6 | ⟨e', h6, h7⟩
      · rw [h6 _ h5] at h3; cases h3
      · have := hlt e' h6; omega
    refine ⟨Nat.le_trans hszA hgr.size, g, hg', ⟨hgr.os.trans hA.kx.os, hgr.tape.trans hA.kx.tape, hgr.output.trans hA.kx.output, Nat.le_trans hA.kx.size hgr.size, fun k hk hx => (hgr.block k (Nat.lt_of_lt_of_le hk hA.kx.size) (fun q => ?_)).trans (hA.kx.block k hk hx)⟩, ?_, hA.nd, hA.ow⟩
    · obtain ⟨h1, _⟩ := hrow k q.symm
      omega
    · intro e he
      obtain ⟨o, h1, h2⟩ := hA.bl e he
      exact ⟨o, (hgr.block _ (hA.lt he) (hne e he)).trans h1, h2⟩
  refine wpIn_rangeFunc_ownH (F := wideR none) (w := w) (w0 := w) rfl (by omega) (gf := gf) (lb := cs.toArray) (ha.ev hg) trivial eg (hseq w hw) (fun h k => h.trans k) ?_ (Below.refl _ _) (fun _ => rfl)
    (fun ys W => w.heap.size ≤ W.heap.size ∧ ∃ g, C ys g ∧ WOK w0 XNone (H ys g) W) (fun _ _ _ => False) hI (fun _ _ _ _ _ h _ _ => h) ⟨Nat.le_refl _, g0, hC0, hw.sub hH0⟩
    (fun x a' W => SOK N [] (S1 x) a') (fun x a' _ _ _ _ h _ _ => h) ?_ ?_ ?_ ?_
  · intro W l o o' hl ho hnc hnw
    refine ⟨fun k hk => World.putObj_heap_other (fun e => ?_), by simp, fun k o1 hk h1 h2 => (World.putObj_heap_other (fun e => ?_)).trans h1⟩
    · have := hKlt w hw k hk; omega
    · subst e
      rw [ho] at h1
      cases h1
      rw [hnw] at h2
      cases h2
  · rintro l pre x W K' ⟨hszW, g, hg', hA⟩ hk
    have hs : SOK N [] ((p, .int .i64 x) :: σ) { tmps := ((#[p] : Array Tmp).zip #[Value.int .i64 x]).foldl (fun t (q : Tmp × Value) => t.setIfInBounds q.1 q.2) a.tmps, defers := [] } := by
      have h1 := ha.put (d := some p) (by simpa [dstOK] using hp) (.int .i64 x)
      exact ⟨by simpa [Act.put] using h1.sz, fun i v hv => by simpa [Act.put] using h1.sl i v hv, rfl⟩
    refine wpIn_mono (hassign l x W _ W hs (WOK.start XNone W)) ?_
    intro e a' w' hq
    cases e with
    | normal =>
      obtain ⟨h1, h2⟩ := hq
      have hb := h2.below
      exact hk a' w' ⟨hb.size, fun k o _ ho _ => (hb.block k (Array.getElem?_eq_some_iff.1 ho).1).trans ho⟩ ⟨fun k hK => hb.block k (Nat.lt_of_lt_of_le (hKlt w hw k hK) hszW), hb.size, fun k o _ ho _ => (hb.block k (Array.getElem?_eq_some_iff.1 ho).1).trans ho⟩ ⟨Nat.le_trans hszW hb.size, g, hg', hA.below hb⟩ h1
    | exit id => exact hq
    | goto l => exact hq
    | ret => exact hq
    | panic c => exact hq
    | outgrown => exact hq
  · rintro l pre x a' W hl _ ⟨hszW, g, hg', hA⟩ hax hlen
    have hxw : ∀ k o, w.heap.size ≤ k → W.heap[k]? = some o → o.isCells = false → ¬ XW (H pre g) k := by
      rintro k o hk ho hnc ⟨e, he, hwr', rfl⟩
      obtain ⟨o', h4, h5⟩ := hA.bl e he
      rw [ho] at h4
      cases h4
      rcases hcell pre g hg' e he with h6 | ⟨e', h6, h7⟩
      · rw [h6 _ h5] at hnc; cases hnc
      · have := hlt e' h6; omega
    refine wpIn_mono (hbody l pre x g W hg' hlen hA a' W hax hA.wok) ?_
    intro e a1 w' hq
    cases e with
    | normal =>
      obtain ⟨g', hg2, h2⟩ := hq
      refine ⟨⟨h2.kx.size, fun k o hk ho hnc => (h2.kx.block k (Array.getElem?_eq_some_iff.1 ho).1 (hxw k o hk ho hnc)).trans ho⟩, ⟨fun k hK => h2.kx.block k (Nat.lt_of_lt_of_le (hKlt w hw k hK) hszW) ?_, h2.kx.size, fun k o hk ho hwk => (h2.kx.block k (Array.getElem?_eq_some_iff.1 ho).1 (hxw k o hk ho ?_)).trans ho⟩, Nat.le_trans hszW h2.kx.size, g', hg2, hA.back h2⟩
      · rintro ⟨e, he, hw1, rfl⟩
        exact hwr pre g hg' e he hw1 hK
      · cases o <;> first | rfl | cases hwk
    | exit id => exact hq.elim
    | goto l => exact hq.elim
    | ret => exact hq.elim
    | panic c => exact hq.elim
    | outgrown => exact hq.elim
  · rintro D ys W hD hS ⟨hszW, g, hg', hA⟩ hdf
    refine hdone D ys g hS hg' _ W ⟨ha.sz, ha.sl, by rw [ha.df]; rfl⟩ ⟨hA.kx, ?_, ?_, ?_⟩
    · intro e he
      rcases List.mem_cons.1 he with rfl | he
      · exact ⟨_, hdf, rfl⟩
      · exact hA.bl e he
    · simp only [List.map_cons, List.nodup_cons]
      refine ⟨fun hm => ?_, hA.nd⟩
      obtain ⟨e, he, q⟩ := List.mem_map.1 hm
      obtain ⟨o', h4, h5⟩ := hA.bl e he
      rw [q, hdf] at h4
      cases h4
      rcases hcell ys g hg' e he with h6 | ⟨e', h6, h7⟩
      · have := h6 _ h5; cases this
      · have := hlt e' h6; omega
    · intro e he hw1
      rcases List.mem_cons.1 he with rfl | he
      · exact .inl (Nat.le_trans hsz hD)
      · exact hA.ow e he hw1
  · intro D c pre W hD _ h _; exact h.elim
end
end Go.Proofs.Ytcmepdamemnbkaa
namespace Go.Proofs.Ytcmepdamemnbkaa
open Go.RowKit Go.MapKept
set_option linter.unusedVariables false
set_option linter.unusedSimpArgs false
/-- just these entries -/
def hmapE (es : Array MapEntry) (c : Nat) : HP := fun o => o = .map es c
/-- an iterator over the map in block b, which nothing has been laid into since -/
def hiter (b c : Nat) (seen : Array Nat) : HP := fun o => o = .mapIter (some b) c seen c
/-- one entry's shape told anew -/
inductive Rep (b : Nat) (φ' : HP) : Hp → Hp → Prop
  | head {wr : Bool} {φ : HP} {r : Hp} : Rep b φ' ((b, wr, φ) :: r) ((b, wr, φ') :: r)
  | tail {e : Nat × Bool × HP} {r r' : Hp} (h : Rep b φ' r r') : Rep b φ' (e :: r) (e :: r')
theorem Rep.app {b : Nat} {φ' : HP} {r r' : Hp} (h : Rep b φ' r r') : ∀ l : Hp, Rep b φ' (l ++ r) (l ++ r')
  | [] => h
  | e :: l => .tail (h.app l)
theorem Rep.keys {b : Nat} {φ' : HP} {η η' : Hp} (h : Rep b φ' η η') : η'.map (·.1) = η.map (·.1) := by
  induction h with
  | head => rfl
  | tail _ ih => simp [ih]
theorem Rep.mem {b : Nat} {φ' : HP} {η η' : Hp} (h : Rep b φ' η η') : ∀ e ∈ η', (∃ wr φ, e = (b, wr, φ') ∧ (b, wr, φ) ∈ η) ∨ e ∈ η := by
  induction h with
  | @head wr φ r =>
    intro e he
    rcases List.mem_cons.1 he with rfl | he
    · exact .inl ⟨wr, φ, rfl, List.mem_cons_self ..⟩
    · exact .inr (List.mem_cons_of_mem _ he)
  | tail _ ih =>
    intro e he
    rcases List.mem_cons.1 he with rfl | he
    · exact .inr (List.mem_cons_self ..)
    · rcases ih e he with ⟨wr, φ, h1, h2⟩ | h1
      · exact .inl ⟨wr, φ, h1, List.mem_cons_of_mem _ h2⟩
      · exact .inr (List.mem_cons_of_mem _ h1)
theorem WOK.rep {w0 : World} {X : Nat → Prop} {η η' : Hp} {w : World} (h : WOK w0 X η w) {b : Nat} {φ' : HP} (hR : Rep b φ' η η') {o : Obj} (ho : w.heap[b]? = some o) (hφ : φ' o) : WOK w0 X η' w := by
  refine ⟨h.kx, fun e he => ?_, by rw [hR.keys]; exact h.nd, fun e he hw => ?_⟩
  · rcases hR.mem e he with ⟨wr, φ, rfl, _⟩ | he
    · exact ⟨o, ho, hφ⟩
    · exact h.bl e he
  · rcases hR.mem e he with ⟨wr, φ, rfl, hm⟩ | he
    · exact h.ow (b, wr, φ) hm hw
    · exact h.ow e he hw
theorem hmapE_hmap {es : Array MapEntry} {c : Nat} {l : List (Int × Value)} (h : Ents es c l) {o : Obj} (ho : hmapE es c o) : hmap l o := ⟨es, c, ho, h⟩
section
variable {P : Program} {ro : Option Nat} {n N : Nat} {ds : List Deferred} {w0 : World} {X : Nat → Prop} {Q : Exit → Act → World → Prop} {σ : Slots} {η : Hp} {ops rest : List Oper} {d : Option Tmp} {ty : TypeId} {pos : String} {aft : Array Edge} {g : Option (Nat × Bool)}
theorem xq_rep {e : Exit} {b : Nat} {wr : Bool} {φ φ' : HP} {η' : Hp} (hm : (b, wr, φ) ∈ η) (hi : ∀ o, φ o → φ' o) (hR : Rep b φ' η η') (h : XQ N ds w0 X Q e σ η') : XQ N ds w0 X Q e σ η := fun a w ha hw => by
  obtain ⟨o, h1, h2⟩ := hw.bl _ hm
  exact h a w ha (hw.rep hR h1 (hi o h2))
theorem xo_rangeM (T : Tys P) {t tk te : TypeId} {m : Operand} {b : Nat} {wr : Bool} {l : List (Int × Value)} {η' : Array MapEntry → Nat → Hp} (hg : gS ops σ g = some true) (ht : look t T.mp = some (tk, te)) (hm : ev σ m = some (.map (some b))) (hb : (b, wr, hmap l) ∈ η) (hR : ∀ es c, Rep b (hmapE es c) η (η' es c)) (hN : dstOK N d = true)
    (h : ∀ r es c, Ents es c l → XO P ro n N ds w0 X Q ops (putS d (.pointer (some ⟨r, 0, none⟩)) σ) ((r, true, hiter b c #[]) :: η' es c) rest) : XO P ro n N ds w0 X Q ops σ η (⟨d, .range t m, ty, pos, aft, g⟩ :: rest) :=
  xo_base rfl hg fun a w ha hw => by
    obtain ⟨o, h1, es, c, rfl, hE⟩ := hw.bl _ hb
    have hw' := hw.rep (hR es c) h1 (φ' := hmapE es c) rfl
    refine ⟨_, w.alloc (.mapIter (some b) c #[] c), .pointer (some ⟨w.heap.size, 0, none⟩), ?_, .inl rfl, h w.heap.size es c hE _ _ (ha.put hN _) (hw'.alloc _ _ rfl)⟩
    have := run_range_map (P := P) w t tk te b es c (T.hmp _ (look_mem ht)) h1
    simp only [execOp, ha.ev hm, Sem.run_bind, this, Result.andThen_ok, Sem.run_pure]
theorem xo_next {x : Operand} {r b c : Nat} {wr : Bool} {es : Array MapEntry} {seen : Array Nat} {l : List (Int × Value)} {η' : Array Nat → Hp} (hg : gS ops σ g = some true) (hx : ev σ x = some (.pointer (some ⟨r, 0, none⟩))) (hr : (r, true, hiter b c seen) ∈ η) (hb : (b, wr, hmapE es c) ∈ η) (hE : Ents es c l) (hU : ∀ seen', Upd r (hiter b c seen') η (η' seen')) (hN : dstOK N d = true)
    (h0 : (∀ e ∈ es.toList, seen.contains e.born = true) → XO P ro n N ds w0 X Q ops (putS d (.tuple #[.bool false]) σ) η rest)
    (h1 : ∀ e ∈ es.toList, seen.contains e.born = false → XO P ro n N ds w0 X Q ops (putS d (.tuple #[.bool true, e.key, e.val]) σ) (η' (seen.push e.born)) rest) : XO P ro n N ds w0 X Q ops σ η (⟨d, .next x false, ty, pos, aft, g⟩ :: rest) :=
  xo_base rfl hg fun a w ha hw => by
    obtain ⟨o, h2, h3⟩ := hw.bl _ hr
    obtain ⟨o', h4, h5⟩ := hw.bl _ hb
    subst h3
    subst h5
    rcases run_next_at (P := P) w ty r b c c seen es c h2 h4 hE.born (Nat.le_refl _) with ⟨h6, hrun⟩ | ⟨e, he, w1, hw1, hrun⟩
    · refine ⟨_, w, .tuple #[.bool false], ?_, .inl rfl, h0 (fun e he => ?_) _ _ (ha.put hN _) hw⟩
      · simp only [execOp, ha.ev hx, Sem.run_bind, hrun, Result.andThen_ok, Sem.run_pure]
      · have : leftOf es seen = #[] := Array.eq_empty_of_size_eq_zero h6
        cases hc : seen.contains e.born with
        | true => rfl
        | false =>
          have hm : e ∈ (leftOf es seen).toList := by unfold leftOf; rw [Array.toList_filter, List.mem_filter]; exact ⟨he, by rw [hc]; rfl⟩
          rw [this] at hm
          simp at hm
    · unfold leftOf at he
      rw [Array.toList_filter, List.mem_filter] at he
      have hlt := hw.lt hr
      have hw1' : WOK w0 X η w1 := by
        rcases hw1 with rfl | rfl
        · exact hw
        · exact hw.drew
      have hsz : r < w1.heap.size := by rcases hw1 with rfl | rfl <;> exact hlt
      refine ⟨_, w1.putObj r (.mapIter (some b) c (seen.push e.born) c), .tuple #[.bool true, e.key, e.val], ?_, .inl rfl, h1 e he.1 (by simpa using he.2) _ _ (ha.put hN _) (hw1'.upd (hU _) (OneB.putObj w1 r _) (World.putObj_heap_same hsz) rfl)⟩
      simp only [execOp, ha.ev hx, Sem.run_bind, hrun, Result.andThen_ok, Sem.run_pure]
      rfl
theorem xo_entry {x : Operand} {r b c : Nat} {wr wr' : Bool} {es : Array MapEntry} {seen : Array Nat} {l : List (Int × Value)} {e : MapEntry} (hg : gS ops σ g = some true) (hx : ev σ x = some (.pointer (some ⟨r, 0, none⟩))) (hr : (r, wr', hiter b c (seen.push e.born)) ∈ η) (hb : (b, wr, hmapE es c) ∈ η) (hE : Ents es c l) (he : e ∈ es.toList) (hN : dstOK N d = true)
    (h : XO P ro n N ds w0 X Q ops (putS d (.tuple #[e.key, e.val]) σ) η rest) : XO P ro n N ds w0 X Q ops σ η (⟨d, .entry x, ty, pos, aft, g⟩ :: rest) :=
  xo_val _ rfl hg hN (fun a w ha hw => by
    obtain ⟨o, h2, h3⟩ := hw.bl _ hr
    obtain ⟨o', h4, h5⟩ := hw.bl _ hb
    subst h3
    subst h5
    have := run_entry_at (P := P) w r b c seen es c e h2 h4 he hE.once
    simp only [execOp, ha.ev hx, Sem.run_bind, this, Result.andThen_ok, Sem.run_pure]) h
end
/-- an entry of a set -/
theorem Ents.setV {es : Array MapEntry} {c : Nat} {s : List Int} (h : Ents es c (setV s)) {e : MapEntry} (he : e ∈ es.toList) : ∃ k, k ∈ s ∧ e.key = .int .i64 k ∧ e.val = .bool true := by
  have h1 : kvE e ∈ es.toList.map kvE := List.mem_map_of_mem he
  rw [h.is, Go.Proofs.Ytcmepdamemnbkaa.setV, List.map_map] at h1
  obtain ⟨k, hk, h2⟩ := List.mem_map.1 h1
  exact ⟨k, hk, (congrArg Prod.fst h2).symm, (congrArg Prod.snd h2).symm⟩
end Go.Proofs.Ytcmepdamemnbkaa
namespace Go.Proofs.Ytcmepdamemnbkaa
open Go.RowKit
set_option linter.unusedVariables false
set_option linter.unusedSimpArgs false
set_option maxHeartbeats 4000000 in
theorem appendSeqS_calls (g : Nat) (cs : List Value) (eg : ∀ args w, (callFunc g args).run Try.prog w = .ok (.enter g args) w) (need : Nat → Prop) (S : List Int → Prop) (M : Nat) (w : World) (hit : IterS Try.prog g cs w need S M) (hneed : ∀ k, need k → k < w.heap.size) (hlen : M ≤ 1000000) :
    Calls Try.prog 46 #[.slice none 0 0, .func (.func g) #[] cs.toArray] w fun e w' => ∃ (xs : List Int) (r : RowR), S xs ∧ e = .returned (valR r xs.length) ∧ RowAt 3 w.heap.size w' r xs ∧ Below w.heap.size w w' := by
  refine x_callsM 3 Try.func46 rfl rfl rfl (WOK.start XNone w) ?_
  with_reducible repeat refine xc_seq ?_
  with_reducible refine xc_region ?_
  refine xo_box rfl rfl rfl rfl (fun b2 => ?_)
  refine xo_asg rfl rfl rfl ?_
  with_reducible refine xo_nil ?_
  with_reducible repeat (first | refine xq_then ?_ | refine xq_blockN ?_ | refine xq_scopeN ?_)
  with_reducible repeat refine xc_seq ?_
  with_reducible refine xc_region ?_
  refine xo_mv rfl rfl rfl ?_
  with_reducible refine xo_nil ?_
  with_reducible repeat (first | refine xq_then ?_ | refine xq_blockN ?_ | refine xq_scopeN ?_)
  with_reducible repeat refine xc_seq ?_
  with_reducible refine xc_block ?_
  refine xc_know (φ := w.heap.size ≤ b2) (fun w1 hw1 => hw1.own (by repeat (first | exact List.Mem.head _ | apply List.Mem.tail | apply List.mem_append_right))) fun hb2 => ?_
  refine xc_rangeS (by omega) rfl eg rfl (fun k => k < w.heap.size) (fun w1 hw1 k hk => Nat.lt_of_lt_of_le hk hw1.kx.size) (fun w1 hw1 => hit w1 hw1.kx.size (fun k hk => hw1.kx.below.block k (hneed k hk)) _ hneed _)
    (γ := RowR) (fun ys r => (r = none → ys = []) ∧ ∀ p, r = some p → w.heap.size ≤ p.1) (fun ys r => hpR 3 1 r ys.length (ys.map (.int .i64)) ++ [(b2, true, cel [valR r ys.length] 26)]) none ⟨fun _ => rfl, fun p h => by cases h⟩ (List.Sublist.refl _) ?_ ?_ (fun x => [(2, .pointer (some ⟨b2, 0, none⟩)), (5, .int .i64 x)]) ?_ ?_ ?_
  · intro ys r hC e he
    left
    intro o ho
    rcases List.mem_append.1 he with he | he
    · cases r with
      | none => cases he
      | some p =>
        simp only [hpR, List.mem_singleton] at he
        subst he
        obtain ⟨cur, rfl, _⟩ := ho
        rfl
    · simp only [List.mem_singleton] at he
      subst he
      rw [show o = _ from ho]
      rfl
  · rintro ys r ⟨_, hC⟩ e he _
    rcases List.mem_append.1 he with he | he
    · cases r with
      | none => cases he
      | some p =>
        simp only [hpR, List.mem_singleton] at he
        subst he
        exact Nat.not_lt.2 (hC p rfl)
    · simp only [List.mem_singleton] at he
      subst he
      exact Nat.not_lt.2 hb2
  · intro l x W
    with_reducible repeat refine xc_seq ?_
    with_reducible refine xc_region ?_
    refine xo_asg rfl rfl rfl ?_
    with_reducible refine xo_nil ?_
    with_reducible repeat (first | refine xq_then ?_ | refine xq_blockN ?_ | refine xq_scopeN ?_)
    exact fun a w1 ha hw1 => ⟨ha.sub ⟨rfl, rfl, trivial⟩, hw1.kx⟩
  · rintro l ys x r W ⟨hC1, hC2⟩ hlt hW
    with_reducible repeat refine xc_seq ?_
    with_reducible refine xc_block ?_
    with_reducible repeat refine xc_seq ?_
    with_reducible refine xc_region ?_
    refine xo_load0 T_ rfl rfl rfl (by repeat (first | exact List.Mem.head _ | apply List.Mem.tail | apply List.mem_append_right)) rfl rfl ?_
    refine xo_mv rfl rfl rfl ?_
    refine xo_bs1 T_ rfl rfl rfl rfl rfl rfl rfl rfl (fun b10 => ?_)
    refine xo_app TR_ rfl rfl rfl rfl rfl rfl rfl rfl (by simp) rfl rfl (fun h => by rw [hC1 h]; rfl) (by omega) rfl rfl (fun r' hr' => ?_)
    rcases r' with _ | ⟨g', cap'⟩
    · exact absurd rfl hr'
    refine xo_store T_ rfl rfl rfl rfl (by repeat (first | exact List.Mem.head _ | apply List.Mem.tail | apply List.mem_append_right)) rfl rfl rfl rfl (by repeat (first | exact Upd.head | apply Upd.tail | apply Upd.app)) rfl ?_
    with_reducible refine xo_nil ?_
    with_reducible repeat (first | refine xq_then ?_ | refine xq_blockN ?_ | refine xq_scopeN ?_)
    intro a w1 ha hw1
    refine ⟨some (g', cap'), ⟨(fun h => by cases h), fun p hp => ?_⟩, ?_⟩
    · cases hp
      rcases hw1.ow (g', true, _) (by repeat (first | exact List.Mem.head _ | apply List.Mem.tail | apply List.mem_append_right)) rfl with h1 | ⟨e, he, _, rfl⟩
      · exact Nat.le_trans hW.kx.size h1
      · rcases List.mem_append.1 he with he | he
        · cases r with
          | none => cases he
          | some p =>
            simp only [hpR, List.mem_singleton] at he
            subst he
            exact hC2 p rfl
        · simp only [List.mem_singleton] at he
          subst he
          exact hb2
    · have e1 : (ys ++ [x]).length = ys.length + 1 := by simp
      have e2 : (ys ++ [x]).map (Value.int .i64) = ys.map (Value.int .i64) ++ [Value.int .i64 x] := by simp
      show WOK W _ (hpR 3 1 (some (g', cap')) (ys ++ [x]).length ((ys ++ [x]).map (.int .i64)) ++ [(b2, true, cel [valR (some (g', cap')) (ys ++ [x]).length] 26)]) w1
      rw [e1, e2]
      exact hw1
  · rintro D xs r hS ⟨hC1, hC2⟩
    with_reducible repeat (first | refine xq_then ?_ | refine xq_blockN ?_ | refine xq_scopeN ?_)
    with_reducible repeat refine xc_seq ?_
    with_reducible refine xc_region ?_
    refine xo_load0 T_ rfl rfl rfl (by repeat (first | exact List.Mem.head _ | apply List.Mem.tail | apply List.mem_append_right)) rfl rfl ?_
    refine xo_asg rfl rfl rfl ?_
    with_reducible refine xo_nil ?_
    with_reducible repeat (first | refine xq_then ?_ | refine xq_blockN ?_ | refine xq_scopeN ?_)
    with_reducible repeat refine xc_seq ?_
    with_reducible refine xc_ret ?_
    with_reducible repeat (first | refine xq_thenR ?_ | refine xq_blockR ?_ | refine xq_scopeR ?_)
    refine xq_retM1 rfl rfl fun w1 hw1 => ⟨xs, r, hS, rfl, ⟨hC1, fun p hp => ⟨hC2 p hp, ?_⟩⟩, hw1.kx.below⟩
    subst hp
    exact hw1.bl (p.1, true, orow 3 1 xs.length p.2 (xs.map (.int .i64))) (List.Mem.head _)
theorem collectS_calls (g : Nat) (cs : List Value) (eg : ∀ args w, (callFunc g args).run Try.prog w = .ok (.enter g args) w) (need : Nat → Prop) (S : List Int → Prop) (M : Nat) (w : World) (hit : IterS Try.prog g cs w need S M) (hneed : ∀ k, need k → k < w.heap.size) (hlen : M ≤ 1000000) :
    Calls Try.prog 21 #[.func (.func g) #[] cs.toArray] w fun e w' => ∃ (xs : List Int) (r : RowR), S xs ∧ e = .returned (valR r xs.length) ∧ RowAt 3 w.heap.size w' r xs ∧ Below w.heap.size w w' := by
  have eg2 := enters_of Try.func46 (by kernel_rfl) rfl
  refine x_calls (X := XNone) Try.func21 rfl rfl rfl ?_
  with_reducible repeat refine xc_seq ?_
  with_reducible refine xc_region ?_
  refine xo_asg rfl rfl rfl ?_
  with_reducible refine xo_nil ?_
  with_reducible repeat (first | refine xq_then ?_ | refine xq_blockN ?_ | refine xq_scopeN ?_)
  with_reducible repeat refine xc_seq ?_
  with_reducible refine xc_region ?_
  refine xo_mv rfl rfl rfl ?_
  refine xo_call (fs := []) (cs := []) rfl rfl rfl eg2 rfl (fun w1 hw1 => (appendSeqS_calls g cs eg need S M w1 (fun w2 h1 h2 => hit w2 (Nat.le_trans hw1.kx.size h1) (fun k hk => (h2 k hk).trans (hw1.kx.below.block k (hneed k hk)))) (fun k hk => Nat.lt_of_lt_of_le (hneed k hk) hw1.kx.size) hlen).mono ?_)
  rintro e w2 ⟨xs, r, hS, rfl, hrow, hb⟩
  refine ⟨_, _, rfl, hw1.row hb hrow, ?_⟩
  refine xo_asg rfl rfl rfl ?_
  with_reducible refine xo_nil ?_
  with_reducible repeat (first | refine xq_then ?_ | refine xq_blockN ?_ | refine xq_scopeN ?_)
  with_reducible repeat refine xc_seq ?_
  with_reducible refine xc_ret ?_
  with_reducible repeat (first | refine xq_thenR ?_ | refine xq_blockR ?_ | refine xq_scopeR ?_)
  exact xq_ret1 rfl rfl fun w3 hw3 => ⟨xs, r, hS, rfl, RowAt.of hw3 hrow.1, hw3.kx.below⟩
end Go.Proofs.Ytcmepdamemnbkaa
namespace Go.Proofs.Ytcmepdamemnbkaa
open Go.RowKit
set_option linter.unusedVariables false
set_option linter.unusedSimpArgs false
theorem keys_uniq {es : Array MapEntry} {c : Nat} {l : List (Int × Value)} (hE : Ents es c l) {e e' : MapEntry} (he : e ∈ es.toList) (he' : e' ∈ es.toList) (h : e.key = e'.key) : e.born = e'.born := by
  have h1 : (es.toList.map (·.key)) = l.map (fun p => Value.int .i64 p.1) := by
    have := congrArg (List.map Prod.fst) hE.is
    simpa [List.map_map, Function.comp_def, kvE, kvI] using this
  have h2 : (es.toList.map (·.key)).Nodup := by
    rw [h1, show (fun p : Int × Value => Value.int .i64 p.1) = (fun n => Value.int .i64 n) ∘ Prod.fst from rfl, ← List.map_map]
    refine List.Pairwise.map _ ?_ hE.keys
    intro a b hab q
    injection q with _ q
    exact hab q
  obtain ⟨i, hi, rfl⟩ := List.getElem_of_mem he
  obtain ⟨j, hj, rfl⟩ := List.getElem_of_mem he'
  by_cases e : i = j
  · subst e; rfl
  · exfalso
    rw [List.nodup_iff_pairwise_ne, List.pairwise_iff_getElem] at h2
    by_cases hij : i < j
    · exact h2 i j (by simpa using hi) (by simpa using hj) hij (by simpa using h)
    · exact h2 j i (by simpa using hj) (by simpa using hi) (by omega) (by simpa using h.symm)
theorem keys_nodup {es : Array MapEntry} {c : Nat} {s : List Int} (hE : Ents es c (setV s)) : s.Nodup := by
  have h := hE.keys
  simpa [setV, List.map_map, Function.comp_def] using h
/-- what has been yielded: the keys of the entries that were seen -/
def Seen (es : Array MapEntry) (seen : Array Nat) (ys : List Int) : Prop := ys.Nodup ∧ ∀ n, n ∈ ys ↔ ∃ e ∈ es.toList, seen.contains e.born = true ∧ e.key = .int .i64 n
theorem Seen.step {es : Array MapEntry} {c : Nat} {s : List Int} (hE : Ents es c (setV s)) {seen : Array Nat} {ys : List Int} (h : Seen es seen ys) {e : MapEntry} (he : e ∈ es.toList) (hns : seen.contains e.born = false) {k : Int} (hk : e.key = .int .i64 k) : Seen es (seen.push e.born) (ys ++ [k]) := by
  obtain ⟨h1, h2⟩ := h
  refine ⟨List.nodup_append.2 ⟨h1, by simp, fun a ha b hb q => ?_⟩, fun n => ?_⟩
  · simp at hb
    subst hb
    subst q
    obtain ⟨e', he', h3, h4⟩ := (h2 a).1 ha
    rw [keys_uniq hE he' he (h4.trans hk.symm)] at h3
    rw [h3] at hns
    cases hns
  · rw [List.mem_append, List.mem_singleton, h2]
    constructor
    · rintro (⟨e', he', h3, h4⟩ | rfl)
      · exact ⟨e', he', by simp at h3 ⊢; exact .inl h3, h4⟩
      · exact ⟨e, he, by simp, hk⟩
    · rintro ⟨e', he', h3, h4⟩
      simp at h3
      rcases h3 with h3 | h3
      · exact .inl ⟨e', he', by simpa using h3, h4⟩
      · right
        obtain ⟨i, hi, rfl⟩ := List.getElem_of_mem he
        obtain ⟨j, hj, rfl⟩ := List.getElem_of_mem he'
        have hij : i = j := by
          have ho := hE.once
          by_cases q : i = j
          · exact q
          · exfalso
            rw [List.nodup_iff_pairwise_ne, List.pairwise_iff_getElem] at ho
            by_cases hl : i < j
            · exact ho i j (by simpa using hi) (by simpa using hj) hl (by simpa using h3.symm)
            · exact ho j i (by simpa using hj) (by simpa using hi) (by omega) (by simpa using h3)
        subst hij
        rw [hk] at h4
        injection h4 with _ h4
        exact h4.symm
theorem Seen.sub {es : Array MapEntry} {c : Nat} {s : List Int} (hE : Ents es c (setV s)) {seen : Array Nat} {ys : List Int} (h : Seen es seen ys) : ∀ n ∈ ys, n ∈ s := fun n hn => by
  obtain ⟨e, he, _, h4⟩ := (h.2 n).1 hn
  obtain ⟨k, hk, h5, _⟩ := hE.setV he
  rw [h5] at h4
  injection h4 with _ h4
  rwa [← h4]
theorem Seen.len {es : Array MapEntry} {c : Nat} {s : List Int} (hE : Ents es c (setV s)) {seen : Array Nat} {ys : List Int} (h : Seen es seen ys) : ys.length ≤ s.length := by
  have hp : (s.filter fun n => decide (n ∈ ys)).Perm ys := (List.perm_ext_iff_of_nodup ((keys_nodup hE).filter _) h.1).2 fun n => by
    simp only [List.mem_filter, decide_eq_true_eq]
    exact ⟨fun q => q.2, fun q => ⟨h.sub hE n q, q⟩⟩
  rw [← hp.length_eq]
  exact List.length_filter_le _ _
theorem Seen.all {es : Array MapEntry} {c : Nat} {s : List Int} (hE : Ents es c (setV s)) {seen : Array Nat} {ys : List Int} (h : Seen es seen ys) (hall : ∀ e ∈ es.toList, seen.contains e.born = true) : ys.Perm s :=
  (List.perm_ext_iff_of_nodup h.1 (keys_nodup hE)).2 fun n => ⟨h.sub hE n, fun hn => by
    have : (Value.int .i64 n, Value.bool true) ∈ es.toList.map kvE := by
      rw [hE.is, Go.Proofs.Ytcmepdamemnbkaa.setV, List.map_map]
      exact List.mem_map.2 ⟨n, hn, rfl⟩
    obtain ⟨e, he, q⟩ := List.mem_map.1 this
    exact (h.2 n).2 ⟨e, he, hall e he, congrArg Prod.fst q⟩⟩
theorem keysIter_enters : ∀ args w, (callFunc 58 args).run Try.prog w = .ok (.enter 58 args) w := enters_of Try.func58 (by kernel_rfl) rfl
set_option maxHeartbeats 4000000 in
theorem iter_keys (s : List Int) (M0 B : Nat) (wB : World) (hB : wB.heap[B]? = some (.cells #[.map (some M0)] 44 (0, 0))) (hM : IMap wB M0 (setV s)) :
    IterS Try.prog 58 [.pointer (some ⟨B, 0, none⟩)] wB (fun k => k = B ∨ k = M0) (fun ys => ys.Perm s) s.length := by
  intro w hszB hneed K hK m l J Jx W hW hJ hJx hY h0
  have ltB : B < wB.heap.size := (Array.getElem?_eq_some_iff.1 hB).1
  have ltM := hM.lt
  have gB : W.heap[B]? = _ := (hW.block B (by omega)).trans ((hneed B (.inl rfl)).trans hB)
  have gM : IMap W M0 (setV s) := hM.at_ ((hW.block M0 (by omega)).trans (hneed M0 (.inr rfl)))
  have nBM : B ≠ M0 := fun e => by obtain ⟨es, cl, h, _⟩ := gM; rw [← e, gB] at h; cases h
  have hszW := hW.size
  have hw0 : WOK W XNone [(B, false, cel [.map (some M0)] 44), (M0, false, hmap (setV s))] W := by
    refine ⟨Kx.refl _ W, ?_, by simp [nBM], by simp⟩
    intro e he
    simp only [List.mem_cons, List.not_mem_nil, or_false] at he
    rcases he with rfl | rfl
    · exact ⟨_, gB, rfl⟩
    · exact hmap_of gM
  refine x_iter Try.func58 rfl rfl rfl hw0 ?_
  with_reducible repeat refine xc_seq ?_
  with_reducible refine xc_region ?_
  refine xo_load0 T_ rfl rfl rfl (by repeat (first | exact List.Mem.head _ | apply List.Mem.tail | apply List.mem_append_right)) rfl rfl ?_
  refine xo_rangeM T_ rfl rfl rfl (by repeat (first | exact List.Mem.head _ | apply List.Mem.tail | apply List.mem_append_right)) (fun es c => Rep.tail Rep.head) rfl (fun r5 es c hE => ?_)
  with_reducible refine xo_nil ?_
  with_reducible repeat (first | refine xq_then ?_ | refine xq_blockN ?_ | refine xq_scopeN ?_)
  with_reducible repeat refine xc_seq ?_
  with_reducible refine xc_block ?_
  refine xc_loopJ (γ := Array Nat × List Int) (fun q => Seen es q.1 q.2) (fun q => [(0, .func (.yield l) #[] #[]), (5, .pointer (some ⟨r5, 0, none⟩))])
    (fun q => [(r5, true, hiter M0 c q.1), (B, false, cel [.map (some M0)] 44), (M0, false, hmapE es c)]) (fun q w => J q.2 w ∧ W.heap.size ≤ r5 ∧ W.heap.size ≤ w.heap.size) (fun q => s.length - q.2.length) (#[], []) ⟨List.nodup_nil, fun n => by simp⟩ ⟨rfl, rfl, trivial⟩
    (fun w1 hw1 => ⟨hw1.bok (by repeat (first | exact List.Sublist.refl _ | apply List.Sublist.cons_cons | apply List.Sublist.cons | exact List.nil_sublist _)), hJ _ _ _ none h0 (hw1.kx.grown (fun k q => q.elim)) (fun r e => by cases e), hw1.own (b := r5) (by repeat (first | exact List.Mem.head _ | apply List.Mem.tail | apply List.mem_append_right)), hw1.kx.size⟩) ?_
  rintro ⟨seen, ys⟩ hseen wr hbok ⟨hJr, hr5, hszr⟩
  simp only at hseen hJr ⊢
  have hXW : ∀ seen b, XW [(r5, true, hiter M0 c seen), (B, false, cel [.map (some M0)] 44), (M0, false, hmapE es c)] b → r5 = b := by
    rintro seen b ⟨e, he, hwr, rfl⟩
    simp only [List.mem_cons, List.not_mem_nil, or_false] at he
    rcases he with rfl | rfl | rfl
    · rfl
    · cases hwr
    · cases hwr
  have hIr : wr.heap[r5]? = some (.mapIter (some M0) c seen c) := by
    obtain ⟨o, h5, h6⟩ := hbok.bl (r5, true, hiter M0 c seen) (by repeat (first | exact List.Mem.head _ | apply List.Mem.tail | apply List.mem_append_right))
    rw [h5]
    exact congrArg some h6
  have hwalk : ∀ (wx : World) (sn : Array Nat), wx.heap[r5]? = some (.mapIter (some M0) c sn c) → ∀ q, some r5 = some q → W.heap.size ≤ q ∧ ∃ o : Obj, wx.heap[q]? = some o ∧ o.isWalk = true := fun wx sn h q e => by
    cases e
    exact ⟨hr5, _, h, rfl⟩
  have hJn : ∀ (X : Nat → Prop) (w1 : World), (∀ b, X b → r5 = b) → Kx X wr w1 → J ys w1 := fun X w1 hX kx => hJ ys wr w1 (some r5) hJr (kx.grown (fun k q => congrArg some (hX k q))) (hwalk wr seen hIr)
  with_reducible repeat refine xc_seq ?_
  with_reducible refine xc_region ?_
  refine xo_next rfl rfl (by repeat (first | exact List.Mem.head _ | apply List.Mem.tail | apply List.mem_append_right)) (by repeat (first | exact List.Mem.head _ | apply List.Mem.tail | apply List.mem_append_right)) hE (fun seen' => Upd.head) rfl (fun hall => ?_) (fun e he hns => ?_)
  · refine xo_ext rfl rfl rfl rfl ?_
    with_reducible refine xo_nil ?_
    with_reducible repeat (first | refine xq_then ?_ | refine xq_blockN ?_ | refine xq_scopeN ?_)
    with_reducible repeat refine xc_seq ?_
    refine xc_condF rfl ?_
    with_reducible refine xc_exit ?_
    with_reducible repeat (first | refine xq_blockX ?_ | refine xq_thenE ?_ | refine xq_blockE rfl ?_ | refine xq_scopeE ?_)
    exact xq_end0 rfl fun w2 hw2 => ⟨⟨_, rfl⟩, .inl ⟨ys, hseen.all hE hall, hJn _ _ (hXW seen) hw2.kx⟩⟩
  · obtain ⟨k, hk, hk1, hk2⟩ := hE.setV he
    have hst := hseen.step hE he hns hk1
    have hlen : ys.length < s.length := by
      have := hst.len hE
      simp at this
      omega
    rw [hk1, hk2]
    refine xo_ext rfl rfl rfl rfl ?_
    with_reducible refine xo_nil ?_
    with_reducible repeat (first | refine xq_then ?_ | refine xq_blockN ?_ | refine xq_scopeN ?_)
    with_reducible repeat refine xc_seq ?_
    refine xc_condT rfl ?_
    with_reducible refine xc_skip ?_
    with_reducible repeat (first | refine xq_then ?_ | refine xq_blockN ?_ | refine xq_scopeN ?_)
    with_reducible repeat refine xc_seq ?_
    with_reducible refine xc_block ?_
    with_reducible repeat refine xc_seq ?_
    with_reducible refine xc_region ?_
    refine xo_entry rfl rfl (by repeat (first | exact List.Mem.head _ | apply List.Mem.tail | apply List.mem_append_right)) (by repeat (first | exact List.Mem.head _ | apply List.Mem.tail | apply List.mem_append_right)) hE he rfl ?_
    rw [hk1, hk2]
    refine xo_ext rfl rfl rfl rfl ?_
    refine xo_asg rfl rfl rfl ?_
    with_reducible refine xo_nil ?_
    with_reducible repeat (first | refine xq_then ?_ | refine xq_blockN ?_ | refine xq_scopeN ?_)
    with_reducible repeat refine xc_seq ?_
    with_reducible refine xc_region ?_
    refine xo_mv rfl rfl rfl ?_
    refine xo_mv rfl rfl rfl ?_
    refine xo_yield rfl rfl rfl rfl (fun w1 hw1 => ?_)
    obtain ⟨fn, tmps, assign, body, hy1, hy2⟩ := hY ys k w1 (hJn _ _ (hXW _) hw1.kx) hlen
    refine ⟨fn, tmps, assign, body, hy1, hy2.mono ?_⟩
    have hI1 : w1.heap[r5]? = some (.mapIter (some M0) c (seen.push e.born) c) := by
      obtain ⟨o, h5, h6⟩ := hw1.bl (r5, true, hiter M0 c (seen.push e.born)) (by repeat (first | exact List.Mem.head _ | apply List.Mem.tail | apply List.mem_append_right))
      rw [h5]
      exact congrArg some h6
    have hB1 := hw1.obj (b := B) (wr := false) (cs := [.map (some M0)]) (t := 44) (by repeat (first | exact List.Mem.head _ | apply List.Mem.tail | apply List.mem_append_right))
    have hM1 : w1.heap[M0]? = some (.map es c) := by
      obtain ⟨o, h5, h6⟩ := hw1.bl (M0, false, hmapE es c) (by repeat (first | exact List.Mem.head _ | apply List.Mem.tail | apply List.mem_append_right))
      rw [h5]
      exact congrArg some h6
    have hsz1 := hw1.kx.size
    clear hw1 hy1 hy2
    rintro e2 W3 (⟨rfl, hJ3, hk3⟩ | ⟨rfl, hJx3⟩)
    · have hI3 := hk3.2.2 r5 _ (by omega) hI1 rfl
      have hB3 := (hk3.1 B (hK B (.inl rfl))).trans hB1
      have hM3 := (hk3.1 M0 (hK M0 (.inr rfl))).trans hM1
      have n5B : r5 ≠ B := by omega
      have n5M : r5 ≠ M0 := by omega
      have hsz3 : W.heap.size ≤ W3.heap.size := by have := hk3.2.1; omega
      have hbok3 : BOK [(r5, true, hiter M0 c (seen.push e.born)), (B, false, cel [.map (some M0)] 44), (M0, false, hmapE es c)] W3 := by
        refine ⟨?_, by simp [n5B, n5M, nBM]⟩
        intro e he
        simp only [List.mem_cons, List.not_mem_nil, or_false] at he
        rcases he with rfl | rfl | rfl
        · exact ⟨_, hI3, rfl⟩
        · exact ⟨_, hB3, rfl⟩
        · exact ⟨_, hM3, rfl⟩
      refine ⟨.bool true, _, W3, _, rfl, hbok3.wok, ?_⟩
      refine xo_notOp rfl rfl rfl ?_
      with_reducible refine xo_nil ?_
      with_reducible repeat (first | refine xq_then ?_ | refine xq_blockN ?_ | refine xq_scopeN ?_)
      with_reducible repeat refine xc_seq ?_
      refine xc_condF rfl ?_
      with_reducible refine xc_skip ?_
      with_reducible repeat (first | refine xq_then ?_ | refine xq_blockN ?_ | refine xq_scopeN ?_)
      refine xq_againJ _ _ _ _ _ _ (seen.push e.born, ys ++ [k]) hst (by simp only [List.length_append, List.length_cons, List.length_nil]; omega) ⟨rfl, rfl, trivial⟩
        (fun w1 hw1 => ⟨hw1.bok (by repeat (first | exact List.Sublist.refl _ | apply List.Sublist.cons_cons | apply List.Sublist.cons | exact List.nil_sublist _)), hJ _ W3 w1 (some r5) hJ3 (hw1.kx.grown (fun k q => congrArg some (hXW _ k q))) (hwalk W3 _ hI3), hr5, Nat.le_trans hsz3 hw1.kx.size⟩)
    · refine ⟨.bool false, [], W3, XNone, rfl, WOK.start _ _, ?_⟩
      refine xo_notOp rfl rfl rfl ?_
      with_reducible refine xo_nil ?_
      with_reducible repeat (first | refine xq_then ?_ | refine xq_blockN ?_ | refine xq_scopeN ?_)
      with_reducible repeat refine xc_seq ?_
      refine xc_condT rfl ?_
      with_reducible repeat refine xc_seq ?_
      with_reducible refine xc_ret ?_
      with_reducible repeat (first | refine xq_thenR ?_ | refine xq_blockR ?_ | refine xq_scopeR ?_)
      exact xq_ret0 rfl fun w2 hw2 => ⟨⟨_, rfl⟩, .inr ⟨_, trivial, hJx _ W3 w2 none hJx3 (hw2.kx.grown (fun k q => q.elim)) (fun r e => by cases e)⟩⟩
end Go.Proofs.Ytcmepdamemnbkaa
namespace Go.Proofs.Ytcmepdamemnbkaa
open Go.RowKit
set_option linter.unusedVariables false
set_option linter.unusedSimpArgs false
def sortF (xs : List Int) : List Int := xs.mergeSort fun x y => decide (x ≤ y)
theorem sortF_len (xs : List Int) : (sortF xs).length = xs.length := by simp [sortF]
theorem sort_enters : ∀ args w, (callFunc 57 args).run Try.prog w = .ok (.enter 57 args) w := enters_of Try.func57 (by kernel_rfl) rfl
theorem sort_calls (b cap : Nat) (xs : List Int) (w : World) (o : Obj) (h1 : w.heap[b]? = some o) (h2 : orow 3 1 xs.length cap (xs.map (.int .i64)) o) (hl : xs.length ≤ 1000000) :
    Calls Try.prog 57 #[.slice (some ⟨b, 0, none⟩) xs.length cap] w fun e w' => e = .returned (.tuple #[]) ∧ Kx (fun k => k = b) w w' ∧ ∃ o', w'.heap[b]? = some o' ∧ orow 3 1 xs.length cap ((sortF xs).map (.int .i64)) o' := by
  obtain ⟨cur, rfl, h5, h6, h7, h8⟩ := h2
  rw [Nat.mul_one] at h7 h8
  have hlt : b < w.heap.size := (Array.getElem?_eq_some_iff.1 h1).1
  have hc := Any.slices_Sort_int lays189 b 0 cap xs w (holds_of_blockI h1 h8) hlt (by omega)
  refine Calls.mono (show Calls Try.prog 57 _ _ _ from hc) ?_
  rintro e w' ⟨rfl, n, os, rfl⟩
  have hg := grownBy_sortedI (w := w) (g := b) (n := n) (os := os) (xs.mergeSort fun x y => decide (x ≤ y)).toArray
  refine ⟨rfl, ⟨hg.os, hg.tape, hg.output, hg.size, fun k hk hne => hg.block k hk (fun q => hne (Option.some.inj q))⟩, _, heap_sortedI _ h1, _, rfl, h5, h6, ?_, ?_⟩
  · rw [Nat.mul_one, ← h7]
    simp [Sort.putCells]
  · rw [Nat.mul_one]
    have := take_putCellsI cur (sortF xs) (by rw [sortF_len]; omega)
    rw [sortF_len] at this
    exact this
theorem sortF_perm {l l' : List Int} (h : l.Perm l') : sortF l = sortF l' := by
  have tr : ∀ a b c : Int, decide (a ≤ b) = true → decide (b ≤ c) = true → decide (a ≤ c) = true := fun a b c h1 h2 => by simp at *; omega
  have tot : ∀ a b : Int, (decide (a ≤ b) || decide (b ≤ a)) = true := fun a b => by simp; omega
  refine List.Perm.eq_of_pairwise (le := fun a b => decide (a ≤ b) = true) (fun a b _ _ h1 h2 => ?_) (List.pairwise_mergeSort tr tot l) (List.pairwise_mergeSort tr tot l') (((List.mergeSort_perm l _).trans h).trans (List.mergeSort_perm l' _).symm)
  simp only [decide_eq_true_eq] at h1 h2
  omega
theorem keys_enters : ∀ args w, (callFunc 44 args).run Try.prog w = .ok (.enter 44 args) w := enters_of Try.func44 (by kernel_rfl) rfl
theorem keys_calls (M0 : Nat) (w : World) :
    Calls Try.prog 44 #[.map (some M0)] w fun e w' => ∃ B, e = .returned (.func (.func 58) #[] #[.pointer (some ⟨B, 0, none⟩)]) ∧ w.heap.size ≤ B ∧ w'.heap[B]? = some (.cells #[.map (some M0)] 44 (0, 0)) ∧ Below w.heap.size w w' := by
  refine x_calls (X := XNone) Try.func44 rfl rfl rfl ?_
  with_reducible repeat refine xc_seq ?_
  with_reducible refine xc_region ?_
  refine xo_box rfl rfl rfl rfl (fun b1 => ?_)
  refine xo_asg rfl rfl rfl ?_
  with_reducible refine xo_nil ?_
  with_reducible repeat (first | refine xq_then ?_ | refine xq_blockN ?_ | refine xq_scopeN ?_)
  with_reducible repeat refine xc_seq ?_
  with_reducible refine xc_region ?_
  refine xo_mkf rfl rfl rfl rfl ?_
  refine xo_asg rfl rfl rfl ?_
  with_reducible refine xo_nil ?_
  with_reducible repeat (first | refine xq_then ?_ | refine xq_blockN ?_ | refine xq_scopeN ?_)
  with_reducible repeat refine xc_seq ?_
  with_reducible refine xc_ret ?_
  with_reducible repeat (first | refine xq_thenR ?_ | refine xq_blockR ?_ | refine xq_scopeR ?_)
  exact xq_ret1 rfl rfl fun w' hw => ⟨b1, rfl, hw.own (by repeat (first | exact List.Mem.head _ | apply List.Mem.tail | apply List.mem_append_right)), hw.obj (wr := true) (cs := [.map (some M0)]) (by repeat (first | exact List.Mem.head _ | apply List.Mem.tail | apply List.mem_append_right)), hw.kx.below⟩
end Go.Proofs.Ytcmepdamemnbkaa
namespace Go.Proofs.Ytcmepdamemnbkaa
open Go.Shelf Go.RowKit
set_option maxRecDepth 100000
def ren125 : Ren := ⟨fun n => bif Nat.beq n 125 then 65 else bif Nat.beq n 128 then 76 else bif Nat.beq n 129 then 77 else n, fun n => bif Nat.beq n 3 then 3 else bif Nat.beq n 4 then 4 else bif Nat.beq n 5 then 5 else bif Nat.beq n 9 then 9 else bif Nat.beq n 46 then 95 else bif Nat.beq n 51 then 106 else bif Nat.beq n 53 then 108 else n, fun n => n⟩
theorem lays125 : Lays.n125 Try.prog ren125 where
  mixed := T_.mixed
  f125 := by kernel_rfl
  f128 := by kernel_rfl
  f129 := by kernel_rfl
  t3 := by kernel_rfl
  a3 := fun w => by kernel_rfl
  z3 := fun w => by kernel_rfl
  v3 := fun w => by kernel_rfl
  t4 := by kernel_rfl
  a4 := fun w => by kernel_rfl
  z4 := fun w => by kernel_rfl
  v4 := fun w => by kernel_rfl
  t5 := by kernel_rfl
  a5 := fun w => by kernel_rfl
  z5 := fun w => by kernel_rfl
  v5 := fun w => by kernel_rfl
  t9 := by kernel_rfl
  a9 := fun w => by kernel_rfl
  z9 := fun w => by kernel_rfl
  v9 := fun w => by kernel_rfl
  t46 := by kernel_rfl
  a46 := fun w => by kernel_rfl
  z46 := fun w => by kernel_rfl
  v46 := fun w => by kernel_rfl
  t51 := by kernel_rfl
  a51 := fun w => by kernel_rfl
  z51 := fun w => by kernel_rfl
  v51 := fun w => by kernel_rfl
  t53 := by kernel_rfl
  a53 := fun w => by kernel_rfl
  z53 := fun w => by kernel_rfl
  v53 := fun w => by kernel_rfl
end Go.Proofs.Ytcmepdamemnbkaa
namespace Go.Proofs.Ytcmepdamemnbkaa
open Go.RowKit
set_option linter.unusedVariables false
set_option linter.unusedSimpArgs false
theorem insertion_nil (w : World) : Calls Try.prog 67 #[.slice none 0 0, .int .i64 0, .int .i64 0] w fun e w' => e = .returned (.tuple #[]) ∧ Below w.heap.size w w' := by
  refine x_calls (X := XNone) Try.func67 rfl rfl rfl ?_
  with_reducible repeat refine xc_seq ?_
  with_reducible refine xc_region ?_
  refine xo_mv rfl rfl rfl ?_
  refine xo_add rfl rfl rfl (by omega) rfl ?_
  refine xo_asg rfl rfl rfl ?_
  with_reducible refine xo_nil ?_
  with_reducible repeat (first | refine xq_then ?_ | refine xq_blockN ?_ | refine xq_scopeN ?_)
  with_reducible repeat refine xc_seq ?_
  with_reducible refine xc_block ?_
  refine xc_loop (γ := Unit) (fun _ => True) (fun _ => [(2, .int .i64 0), (6, .int .i64 1)]) (fun _ => []) (fun _ => 0) () trivial ⟨rfl, rfl, trivial⟩ (List.Sublist.refl _) ?_
  rintro _ _
  with_reducible repeat refine xc_seq ?_
  with_reducible refine xc_region ?_
  refine xo_mv rfl rfl rfl ?_
  refine xo_mv rfl rfl rfl ?_
  refine xo_lss rfl rfl rfl rfl ?_
  with_reducible refine xo_nil ?_
  with_reducible repeat (first | refine xq_then ?_ | refine xq_blockN ?_ | refine xq_scopeN ?_)
  with_reducible repeat refine xc_seq ?_
  refine xc_condF rfl ?_
  with_reducible refine xc_exit ?_
  with_reducible repeat (first | refine xq_blockX ?_ | refine xq_thenE ?_ | refine xq_blockE rfl ?_ | refine xq_scopeE ?_)
  exact xq_end0 rfl fun w2 hw2 => ⟨rfl, hw2.kx.below⟩
theorem pdq_nil (x : Int) (w : World) : Calls Try.prog 64 #[.slice none 0 0, .int .i64 0, .int .i64 0, .int .i64 x] w fun e w' => e = .returned (.tuple #[]) ∧ Below w.heap.size w w' := by
  have eg := enters_of Try.func67 (by kernel_rfl) rfl
  refine x_calls (X := XNone) Try.func64 rfl rfl rfl ?_
  with_reducible repeat refine xc_seq ?_
  with_reducible refine xc_region ?_
  refine xo_asg rfl rfl rfl ?_
  with_reducible refine xo_nil ?_
  with_reducible repeat (first | refine xq_then ?_ | refine xq_blockN ?_ | refine xq_scopeN ?_)
  with_reducible repeat refine xc_seq ?_
  with_reducible refine xc_region ?_
  refine xo_asg rfl rfl rfl ?_
  with_reducible refine xo_nil ?_
  with_reducible repeat (first | refine xq_then ?_ | refine xq_blockN ?_ | refine xq_scopeN ?_)
  with_reducible repeat refine xc_seq ?_
  with_reducible refine xc_block ?_
  refine xc_loop (γ := Unit) (fun _ => True) (fun _ => [(0, .slice none 0 0), (1, .int .i64 0), (2, .int .i64 0)]) (fun _ => []) (fun _ => 0) () trivial ⟨rfl, rfl, rfl, trivial⟩ (List.Sublist.refl _) ?_
  rintro _ _
  with_reducible repeat refine xc_seq ?_
  with_reducible refine xc_block ?_
  with_reducible repeat refine xc_seq ?_
  with_reducible refine xc_region ?_
  refine xo_mv rfl rfl rfl ?_
  refine xo_mv rfl rfl rfl ?_
  refine xo_sub rfl rfl rfl (by omega) rfl ?_
  refine xo_asg rfl rfl rfl ?_
  with_reducible refine xo_nil ?_
  with_reducible repeat (first | refine xq_then ?_ | refine xq_blockN ?_ | refine xq_scopeN ?_)
  with_reducible repeat refine xc_seq ?_
  with_reducible refine xc_region ?_
  refine xo_mv rfl rfl rfl ?_
  refine xo_leq rfl rfl rfl rfl ?_
  with_reducible refine xo_nil ?_
  with_reducible repeat (first | refine xq_then ?_ | refine xq_blockN ?_ | refine xq_scopeN ?_)
  with_reducible repeat refine xc_seq ?_
  refine xc_condT rfl ?_
  with_reducible repeat refine xc_seq ?_
  with_reducible refine xc_region ?_
  refine xo_mv rfl rfl rfl ?_
  refine xo_mv rfl rfl rfl ?_
  refine xo_mv rfl rfl rfl ?_
  refine xo_callB (fs := []) (cs := []) rfl rfl rfl eg rfl (fun w1 hw1 => insertion_nil w1) ?_
  with_reducible refine xo_nil ?_
  with_reducible repeat (first | refine xq_then ?_ | refine xq_blockN ?_ | refine xq_scopeN ?_)
  with_reducible repeat refine xc_seq ?_
  with_reducible refine xc_ret ?_
  with_reducible repeat (first | refine xq_thenR ?_ | refine xq_blockR ?_ | refine xq_scopeR ?_)
  exact xq_ret0 rfl fun w2 hw2 => ⟨rfl, hw2.kx.below⟩
theorem sort_nil (w : World) : Calls Try.prog 57 #[.slice none 0 0] w fun e w' => e = .returned (.tuple #[]) ∧ Below w.heap.size w w' := by
  have eg := enters_of Try.func64 (by kernel_rfl) rfl
  have eg2 := enters_of Try.func65 (by kernel_rfl) rfl
  refine x_calls (X := XNone) Try.func57 rfl rfl rfl ?_
  with_reducible repeat refine xc_seq ?_
  with_reducible refine xc_region ?_
  refine xo_mv rfl rfl rfl ?_
  refine xo_len T_ rfl rfl rfl rfl ?_
  refine xo_asg rfl rfl rfl ?_
  with_reducible refine xo_nil ?_
  with_reducible repeat (first | refine xq_then ?_ | refine xq_blockN ?_ | refine xq_scopeN ?_)
  with_reducible repeat refine xc_seq ?_
  with_reducible refine xc_region ?_
  refine xo_mv rfl rfl rfl ?_
  refine xo_mv rfl rfl rfl ?_
  refine xo_mv rfl rfl rfl ?_
  refine xo_conv T_ rfl rfl rfl rfl (by decide) rfl ?_
  refine xo_callB (fs := []) (cs := []) rfl rfl rfl eg2 rfl (fun w1 hw1 => (Any.bits_Len lays125 0 w1 (by omega) (by omega)).mono (fun e w' h => ⟨h.1, by rw [h.2]; exact Below.refl _ _⟩)) ?_
  refine xo_callB (fs := []) (cs := []) rfl rfl rfl eg rfl (fun w1 hw1 => pdq_nil _ w1) ?_
  with_reducible refine xo_nil ?_
  with_reducible repeat (first | refine xq_then ?_ | refine xq_blockN ?_ | refine xq_scopeN ?_)
  exact xq_end0 rfl fun w2 hw2 => ⟨rfl, hw2.kx.below⟩
theorem collectS_enters : ∀ args w, (callFunc 21 args).run Try.prog w = .ok (.enter 21 args) w := enters_of Try.func21 (by kernel_rfl) rfl
theorem sorted_enters : ∀ args w, (callFunc 43 args).run Try.prog w = .ok (.enter 43 args) w := enters_of Try.func43 (by kernel_rfl) rfl
theorem sorted_calls (g : Nat) (cs : List Value) (eg : ∀ args w, (callFunc g args).run Try.prog w = .ok (.enter g args) w) (need : Nat → Prop) (s : List Int) (M : Nat) (w : World) (hit : IterS Try.prog g cs w need (fun ys => ys.Perm s) M) (hneed : ∀ k, need k → k < w.heap.size) (hlen : M ≤ 1000000) (hs : s.length ≤ 1000000) :
    Calls Try.prog 43 #[.func (.func g) #[] cs.toArray] w fun e w' => ∃ r : RowR, e = .returned (valR r (sortF s).length) ∧ RowAt 3 w.heap.size w' r (sortF s) ∧ Below w.heap.size w w' := by
  refine x_calls (X := XNone) Try.func43 rfl rfl rfl ?_
  with_reducible repeat refine xc_seq ?_
  with_reducible refine xc_region ?_
  refine xo_asg rfl rfl rfl ?_
  with_reducible refine xo_nil ?_
  with_reducible repeat (first | refine xq_then ?_ | refine xq_blockN ?_ | refine xq_scopeN ?_)
  with_reducible repeat refine xc_seq ?_
  with_reducible refine xc_region ?_
  refine xo_mv rfl rfl rfl ?_
  refine xo_call (fs := []) (cs := []) rfl rfl rfl collectS_enters rfl (fun w1 hw1 => (collectS_calls g cs eg need _ M w1 (fun w2 h1 h2 => hit w2 (Nat.le_trans hw1.kx.size h1) (fun k hk => (h2 k hk).trans (hw1.kx.below.block k (hneed k hk)))) (fun k hk => Nat.lt_of_lt_of_le (hneed k hk) hw1.kx.size) hlen).mono ?_)
  rintro e w2 ⟨xs, r, hS, rfl, hrow, hb⟩
  have h0 := hrow.1
  refine ⟨_, _, rfl, hw1.row hb hrow, ?_⟩
  clear hrow hb hw1
  have hxl : xs.length = s.length := hS.length_eq
  have hsx : sortF s = sortF xs := (sortF_perm hS).symm
  refine xo_asg rfl rfl rfl ?_
  with_reducible refine xo_nil ?_
  with_reducible repeat (first | refine xq_then ?_ | refine xq_blockN ?_ | refine xq_scopeN ?_)
  rcases r with _ | ⟨b, cap⟩
  · obtain rfl := h0 rfl
    with_reducible repeat refine xc_seq ?_
    with_reducible refine xc_region ?_
    refine xo_mv rfl rfl rfl ?_
    refine xo_callB (fs := []) (cs := []) rfl rfl rfl sort_enters rfl (fun w1 hw1 => sort_nil w1) ?_
    with_reducible refine xo_nil ?_
    with_reducible repeat (first | refine xq_then ?_ | refine xq_blockN ?_ | refine xq_scopeN ?_)
    with_reducible repeat refine xc_seq ?_
    with_reducible refine xc_region ?_
    refine xo_mv rfl rfl rfl ?_
    refine xo_asg rfl rfl rfl ?_
    with_reducible refine xo_nil ?_
    with_reducible repeat (first | refine xq_then ?_ | refine xq_blockN ?_ | refine xq_scopeN ?_)
    with_reducible repeat refine xc_seq ?_
    with_reducible refine xc_ret ?_
    with_reducible repeat (first | refine xq_thenR ?_ | refine xq_blockR ?_ | refine xq_scopeR ?_)
    refine xq_ret1 rfl rfl fun w' hw => ⟨none, rfl, ?_, hw.kx.below⟩
    rw [hsx]
    exact ⟨fun _ => by simp [sortF], fun p hp => by cases hp⟩
  · with_reducible repeat refine xc_seq ?_
    with_reducible refine xc_region ?_
    refine xo_mv rfl rfl rfl ?_
    refine xo_call (fs := []) (cs := []) rfl rfl rfl sort_enters rfl (fun w1 hw1 => ?_)
    obtain ⟨o1, ho1, ho2⟩ := hw1.bl (b, true, orow 3 1 xs.length cap (xs.map (.int .i64))) (List.Mem.head _)
    refine (sort_calls b cap xs w1 o1 ho1 ho2 (by omega)).mono ?_
    rintro e w3 ⟨rfl, hk3, o3, ho3, ho4⟩
    refine ⟨_, _, rfl, hw1.updK (φ' := orow 3 1 xs.length cap ((sortF xs).map (.int .i64))) Upd.head hk3 ho3 ho4, ?_⟩
    clear ho3 ho4 hk3 ho1 ho2 hw1
    with_reducible refine xo_nil ?_
    with_reducible repeat (first | refine xq_then ?_ | refine xq_blockN ?_ | refine xq_scopeN ?_)
    with_reducible repeat refine xc_seq ?_
    with_reducible refine xc_region ?_
    refine xo_mv rfl rfl rfl ?_
    refine xo_asg rfl rfl rfl ?_
    with_reducible refine xo_nil ?_
    with_reducible repeat (first | refine xq_then ?_ | refine xq_blockN ?_ | refine xq_scopeN ?_)
    with_reducible repeat refine xc_seq ?_
    with_reducible refine xc_ret ?_
    with_reducible repeat (first | refine xq_thenR ?_ | refine xq_blockR ?_ | refine xq_scopeR ?_)
    refine xq_ret1 rfl rfl fun w' hw => ⟨some (b, cap), by rw [hsx, sortF_len], ?_, hw.kx.below⟩
    rw [hsx]
    refine RowAt.of (η := []) ?_ (fun h => by cases h)
    rw [sortF_len]
    exact hw.sub (List.Sublist.cons_cons _ (List.nil_sublist _))
end Go.Proofs.Ytcmepdamemnbkaa
