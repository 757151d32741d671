/- burn: the heat of some seconds, at all lags: the span of all their sums. / burn.Heat, burn.Sum: by hand, so that the readings are read as they lie. (Printed by wip/tpl/gen_tell.py.) / Maps keyed by int that a call has made: a list of entries as it reads, in the order in which they came; what a look-up, a store, a delete, a range do. No program in sight. / What burn.First works out at each lag, and of all lags: plain law. / A region that draws its order of evaluation, in a round of a range over a function (and anywhere inside the wide fence): its walk by the plain laws. No program in sight. -/
import Derived.Test.YtaijhbliagjeaaaDoorPkLawBurnWider2
import Derived.RangeFuncWrites
import Derived.RangeFuncBox
import Derived.Maps.OwnIn
import Derived.Maps.AppendAt
import Derived.Deep.DeepMust
import Derived.Outline
import Derived.WalkKit
import Derived.WalkSpells
import Derived.WalkLawsBesides
import Derived.Maps.RangeRun
import Derived.RangeFuncRecord
import Derived.MapFrom
import Derived.Carry
import Derived.Below
import Derived.RangeFuncCalls
import Derived.OrdersIn
import Derived.Deep.RegionHeld
import Derived.Scope
namespace Go.Proofs.YtaijhbliagjeaaaDoor
open Go.RowKit Go.Proofs.YtaijhbliagjeaaaDoorW.PrintWords Go.Proofs.YtaijhbliagjeaaaDoorW.PrintMore
attribute [local go_sem] Oper.semAt_some
set_option linter.unusedVariables false
set_option linter.unusedSimpArgs false
/-- the heat of some seconds at one lag, at an end -/
def sumH (k : Bool) (b0 b1 f0 f1 j0 j1 dr : Int) (l : List Int) (fr lag : Int) : Nat → Int
  | 0 => 0
  | d + 1 => sumH k b0 b1 f0 f1 j0 j1 dr l fr lag d + heatF k b0 b1 f0 f1 j0 j1 dr (rd l (fr + d + lag))
def ReadsOK (l : List Int) : Prop := l.length ≤ 120 ∧ ∀ y ∈ l, 0 ≤ y ∧ y ≤ 1000000
theorem rd_ok {l : List Int} (h : ReadsOK l) (i : Int) : 0 ≤ rd l i ∧ rd l i ≤ 1000000 := by
  unfold rd
  by_cases hi : i.toNat < l.length
  · rw [List.getD_eq_getElem?_getD, List.getElem?_eq_getElem hi]
    exact h.2 _ (List.getElem_mem hi)
  · rw [List.getD_eq_getElem?_getD, List.getElem?_eq_none (by omega)]
    simp
theorem heatF_ok {k : Bool} {b0 b1 f0 f1 j0 j1 g0 g1 dr y : Int} (hH : HoodOK b0 b1 f0 f1 j0 j1 g0 g1 dr) (h0 : 0 ≤ y) (h1 : y ≤ 1000000) : 0 ≤ heatF k b0 b1 f0 f1 j0 j1 dr y ∧ heatF k b0 b1 f0 f1 j0 j1 dr y ≤ 300300000000000 := by
  unfold HoodOK at hH
  have s1 : 0 ≤ sel k j0 j1 ∧ sel k j0 j1 ≤ 30000 := by cases k <;> simp [sel] <;> omega
  have s2 : 0 ≤ sel k f0 f1 ∧ sel k f0 f1 ≤ 10000 := by cases k <;> simp [sel] <;> omega
  have s3 : 0 ≤ missF k b0 b1 y dr ∧ missF k b0 b1 y dr ≤ 1001000 := by
    unfold missF mx sel sgn
    cases k <;> simp <;> split <;> omega
  have m1 : 0 ≤ sel k j0 j1 * sel k f0 f1 ∧ sel k j0 j1 * sel k f0 f1 ≤ 300000000 := ⟨Int.mul_nonneg s1.1 s2.1, by have := Int.mul_le_mul s1.2 s2.2 s2.1 (by omega); omega⟩
  exact ⟨Int.mul_nonneg m1.1 s3.1, by have := Int.mul_le_mul m1.2 s3.2 s3.1 (by omega); unfold heatF; omega⟩
theorem sumH_ok {k : Bool} {b0 b1 f0 f1 j0 j1 g0 g1 dr : Int} (hH : HoodOK b0 b1 f0 f1 j0 j1 g0 g1 dr) {l : List Int} (hl : ReadsOK l) (fr lag : Int) (d : Nat) :
    0 ≤ sumH k b0 b1 f0 f1 j0 j1 dr l fr lag d ∧ sumH k b0 b1 f0 f1 j0 j1 dr l fr lag d ≤ 300300000000000 * d := by
  induction d with
  | zero => simp [sumH]
  | succ d ih =>
    have hr := rd_ok hl (fr + d + lag)
    have := heatF_ok (k := k) hH hr.1 hr.2
    simp only [sumH]
    omega
def spanAt (b0 b1 f0 f1 j0 j1 dr : Int) (l : List Int) (fr : Int) (d : Nat) (lag : Int) : Int × Int := (sumH false b0 b1 f0 f1 j0 j1 dr l fr lag d, sumH true b0 b1 f0 f1 j0 j1 dr l fr lag d)
def sumS (b0 b1 f0 f1 j0 j1 g0 g1 dr : Int) (l : List Int) (fr to_ : Int) : Int × Int :=
  ((upFrom (g0 + 1) (g1 - g0).toNat).map (spanAt b0 b1 f0 f1 j0 j1 dr l fr (to_ - fr).toNat)).foldl hull (spanAt b0 b1 f0 f1 j0 j1 dr l fr (to_ - fr).toNat g0)
def flatSp (l : List (Int × Int)) : List Value := l.flatMap fun p => [.int .i64 p.1, .int .i64 p.2]
theorem blk_own {β : Type} (g : Nat) (cs : Array Value) (t : TypeId) : Own (fun (_ : β) W => W.heap[g]? = some (.cells cs t (0, 0))) := by
  intro s X Y row hs hg hrow
  refine blk_grown hs hg (fun e => ?_)
  obtain ⟨o, ho, hc⟩ := hrow g e.symm
  rw [hs] at ho
  cases ho
  cases hc
theorem kb_below {w w1 : World} (h : Below w.heap.size w w1) : KeepsOthers w w1 := ⟨h.size, fun k o hk _ => (h.block k (blk_lt hk)).trans hk⟩
theorem kb_keepBut {w w1 : World} {g : Nat} {cs : Array Value} {t : TypeId} {fr : Nat × Nat} (h : KeepBut w w1 g none) (hg : w.heap[g]? = some (.cells cs t fr)) : KeepsOthers w w1 :=
  ⟨h.1, fun k o hk hc => (h.2 k (blk_lt hk) (fun e => by subst e; rw [hg] at hk; cases hk; cases hc) (by simp)).trans hk⟩
theorem news_two (w : World) (t : TypeId) (p q : Value) : ∀ j u, [p, q][j]? = some u → (w.alloc (.cells #[p, q] t)).cell? (Addr.add ⟨w.heap.size, 0, none⟩ j) = some u := by
  intro j u hj
  have hb := blk_new w (.cells #[p, q] t)
  have hc := blk_cell hb j
  rw [add_plain]
  rw [hc]
  simpa using hj
theorem upFrom_cons (a : Int) (n : Nat) : upFrom a (n + 1) = a :: upFrom (a + 1) n := by
  simp only [upFrom, List.range_succ_eq_map, List.map_cons, List.map_map]
  congr 1
  · simp
  · apply List.map_congr_left
    intro k _
    simp only [Function.comp, Nat.succ_eq_add_one]
    omega
theorem flatSp_append (a b : List (Int × Int)) : flatSp (a ++ b) = flatSp a ++ flatSp b := by simp [flatSp]
theorem flatSp_length (a : List (Int × Int)) : (flatSp a).length = a.length * 2 := by
  induction a with
  | nil => rfl
  | cons x a ih => simp [flatSp] at ih ⊢; omega
theorem reps_flatSp (w : World) : ∀ l : List (Int × Int), Reps (kdS.K w) 2 l (flatSp l)
  | [] => ⟨rfl, fun j p hj => by simp at hj⟩
  | x :: l => by
    have ih := reps_flatSp w l
    refine ⟨by rw [flatSp_length], fun j p hj => ?_⟩
    cases j with
    | zero =>
      simp at hj
      subst hj
      exact ⟨[.int .i64 x.1], [.int .i64 x.2], by simp [flatSp], rfl, rfl⟩
    | succ j =>
      have := ih.2 j p (by simpa using hj)
      have e : (flatSp (x :: l)).drop ((j + 1) * 2) = (flatSp l).drop (j * 2) := by
        rw [show (j + 1) * 2 = j * 2 + 1 + 1 from by omega]
        rfl
      rw [e]
      exact this
theorem own_spans {w : World} {base : Nat} {v : Value} {x : Int × Int} {l : List (Int × Int)} (h : w.ownsRow base 23 2 v (l.length + 1) (flatSp (x :: l))) :
    ∃ A c, v = .slice A (x :: l).length c ∧ (x :: l).length ≤ c ∧ kdS.C w A (x :: l).length (x :: l) := by
  obtain ⟨A, c, hv, hr⟩ := own_reads_row h (reps_flatSp w (x :: l)) rfl
  refine ⟨A, c, hv, ?_, hr⟩
  rcases h.2 with ⟨_, h0⟩ | ⟨g, cap, cur, hv', _, _, hc, _⟩
  · omega
  · rw [hv] at hv'
    cases hv'
    exact hc
def allG {α : Type} (G7 : Nat) (n0 : Nat) (f : α → Int × Int) (pre : List α) (W : World) : Prop :=
  ∃ v, Boxed W G7 61 v ∧ W.ownsRow n0 23 2 v pre.length (flatSp (pre.map f)) ∧ True
set_option maxRecDepth 100000 in
set_option maxHeartbeats 4000000 in
theorem sum_calls (b0 b1 f0 f1 j0 j1 g0 g1 dr : Int) (hH : HoodOK b0 b1 f0 f1 j0 j1 g0 g1 dr) (A : Option Addr) (c : Nat) (l : List Int) (hl : ReadsOK l) (sc fr to_ : Int) (w : World) (hr : Kd.C (Kd.int .i64) w A l.length l)
    (hf0 : 0 ≤ fr) (hft : fr ≤ to_) (hto : (fr = to_ ∧ to_ ≤ 1000) ∨ to_ + g1 ≤ l.length) (hG : GlobOK w) :
    Calls Tryd.prog 28 #[.agg (ductC b0 b1 f0 f1 j0 j1 g0 g1 dr A l.length c sc), .int .i64 fr, .int .i64 to_] w
      fun e w' => e = .returned (spanV (sumS b0 b1 f0 f1 j0 j1 g0 g1 dr l fr to_)) ∧ Below w.heap.size w w' := by
  refine (callsIn_wide (n := 3)).1 ?_
  have HR := Aside0.mk hr
  have HGL := Aside0.mk hG
  have HH := Aside0.mk hH
  have HLK := Aside0.mk hl
  clear hr hG hH hl
  generalize hL : l.length = n at *
  have HLN := Aside0.mk hL
  clear hL
  unfold ductC
  refine callsIn_of_wp_marks Tryd.func28 rfl trivial ?_ rfl
  simp only [Tryd.ntmps28, List.size_toArray, List.length_cons, List.length_nil, Nat.reduceAdd, Nat.reduceSub, Array.replicate_succ, Array.replicate_zero, List.push_toArray, List.append_toArray, List.nil_append, List.cons_append]
  gi_wp2_with (refine ⟨trivial, ?_⟩; gi_at_call 23; refine (callsIn_wide.2 (lags_calls b0 b1 f0 f1 j0 j1 g0 g1 dr A n c sc _)).mono ?_; rintro e w' ⟨rfl, rfl⟩)
  obtain ⟨W0, hW0⟩ : ∃ W, (((((w.alloc (.cells #[.int .i64 b0, .int .i64 b1, .int .i64 f0, .int .i64 f1, .int .i64 j0, .int .i64 j1, .int .i64 g0, .int .i64 g1, .int .i64 dr, .slice A n c, .int .i64 sc] 52)).alloc (.cells #[.int .i64 fr] 3)).alloc (.cells #[.int .i64 to_] 3)).alloc (.cells #[.int .i64 0, .int .i64 0] 23)).alloc (.cells #[.slice none 0 0] 61)).alloc (.cells (ductC b0 b1 f0 f1 j0 j1 g0 g1 dr A n c sc) 52) = W := ⟨_, rfl⟩
  rw [hW0]
  have hbW : Below w.heap.size w W0 := hW0 ▸ below_alloc (below_alloc (below_alloc (below_alloc (below_alloc (below_alloc (Below.refl _ w) _) _) _) _) _) _
  obtain ⟨x3, x4, x5, x6, x7, x8⟩ : W0.heap[w.heap.size]? = some (.cells #[.int .i64 b0, .int .i64 b1, .int .i64 f0, .int .i64 f1, .int .i64 j0, .int .i64 j1, .int .i64 g0, .int .i64 g1, .int .i64 dr, .slice A n c, .int .i64 sc] 52) ∧ W0.heap[w.heap.size + 1]? = some (.cells #[.int .i64 fr] 3) ∧ W0.heap[w.heap.size + 1 + 1]? = some (.cells #[.int .i64 to_] 3)
      ∧ W0.heap[w.heap.size + 1 + 1 + 1]? = some (.cells #[.int .i64 0, .int .i64 0] 23) ∧ W0.heap[w.heap.size + 1 + 1 + 1 + 1]? = some (.cells #[.slice none 0 0] 61) ∧ W0.heap[w.heap.size + 1 + 1 + 1 + 1 + 1]? = some (.cells (ductC b0 b1 f0 f1 j0 j1 g0 g1 dr A n c sc) 52) := by
    rw [← hW0]
    exact ⟨blk_alloc (blk_alloc (blk_alloc (blk_alloc (blk_alloc (blk_new _ _) _) _) _) _) _, blk_alloc (blk_alloc (blk_alloc (blk_alloc (blk_new_at _ _ (by simp)) _) _) _) _, blk_alloc (blk_alloc (blk_alloc (blk_new_at _ _ (by simp)) _) _) _, blk_alloc (blk_alloc (blk_new_at _ _ (by simp)) _) _, blk_alloc (blk_new_at _ _ (by simp)) _, blk_new_at _ _ (by simp)⟩
  have hN8 : W0.heap.size = w.heap.size + 1 + 1 + 1 + 1 + 1 + 1 := by rw [← hW0]; simp
  clear hW0
  have hle7 : w.heap.size ≤ w.heap.size + 1 + 1 + 1 + 1 := by omega
  have hle6 : w.heap.size ≤ w.heap.size + 1 + 1 + 1 := by omega
  have n73 : w.heap.size + 1 + 1 + 1 + 1 ≠ w.heap.size := by omega
  have n74 : w.heap.size + 1 + 1 + 1 + 1 ≠ w.heap.size + 1 := by omega
  have n75 : w.heap.size + 1 + 1 + 1 + 1 ≠ w.heap.size + 1 + 1 := by omega
  have n76 : w.heap.size + 1 + 1 + 1 + 1 ≠ w.heap.size + 1 + 1 + 1 := by omega
  have n78 : w.heap.size + 1 + 1 + 1 + 1 ≠ w.heap.size + 1 + 1 + 1 + 1 + 1 := by omega
  generalize w.heap.size + 1 + 1 + 1 + 1 + 1 = G8 at *
  generalize w.heap.size + 1 + 1 + 1 + 1 = G7 at *
  generalize w.heap.size + 1 + 1 + 1 = G6 at *
  generalize w.heap.size + 1 + 1 = G5 at *
  generalize w.heap.size + 1 = G4 at *
  obtain ⟨G3, hG3⟩ : ∃ G, G = w.heap.size := ⟨_, rfl⟩
  rw [← hG3] at x3 n73 ⊢
  have HG3 := Aside0.mk hG3
  clear hG3
  have hh := HH.out
  unfold HoodOK at hh
  obtain ⟨_, _, _, ⟨hg0, hg1, hg2⟩, _⟩ := hh
  have hst := lags_stops b0 b1 f0 f1 j0 j1 g0 g1 dr A n c sc hg0 hg1 hg2 Fence.wide 2 trivial rfl (by omega) G8 W0 x8
  have hl8 := blk_lt x8
  have hl3 := blk_lt x3
  have hl4 := blk_lt x4
  have hl5 := blk_lt x5
  have hl6 := blk_lt x6
  have hl7 := blk_lt x7
  obtain ⟨N0, hN0⟩ : ∃ N0, N0 = W0.heap.size := ⟨_, rfl⟩
  have hNw : w.heap.size ≤ N0 := by have := hbW.size; omega
  rw [← hN0] at hl3 hl4 hl5 hl6 hl7 hl8 hN8
  have HN0 := Aside0.mk hN0
  have HN8 := Aside0.mk hN8
  clear hN0 hN8
  refine wpIn_rangeFunc_ownF (w := W0) rfl (by omega) (gf := 35) (lb := #[.pointer (some ⟨G8, 0, none⟩)]) rfl trivial (enters_of Tryd.func35 (by kernel_rfl) rfl)
    hst (fun h k => k.trans h) (fun W l o o' hl _ _ _ => World.putObj_heap_other (by have := HN0.out; omega)) (Below.refl _ _) (fun _ => rfl)
    (fun pre W => (W.heap[G3]? = some (.cells #[.int .i64 b0, .int .i64 b1, .int .i64 f0, .int .i64 f1, .int .i64 j0, .int .i64 j1, .int .i64 g0, .int .i64 g1, .int .i64 dr, .slice A n c, .int .i64 sc] 52) ∧ W.heap[G4]? = some (.cells #[.int .i64 fr] 3) ∧ W.heap[G5]? = some (.cells #[.int .i64 to_] 3) ∧ W.heap[G6]? = some (.cells #[.int .i64 0, .int .i64 0] 23) ∧ W.heap[G8]? = some (.cells (ductC b0 b1 f0 f1 j0 j1 g0 g1 dr A n c sc) 52) ∧ allG G7 N0 (fun x : LagT g0 g1 => spanAt b0 b1 f0 f1 j0 j1 dr l fr (to_ - fr).toNat x.1) pre W) ∧ Below w.heap.size w W)
    (fun _ _ _ => False)
    (OwnFrom.and (Own.from (fun s X Y row hs hg hr => ⟨blk_own G3 _ _ s X Y row hs.1 hg hr, blk_own G4 _ _ s X Y row hs.2.1 hg hr, blk_own G5 _ _ s X Y row hs.2.2.1 hg hr, blk_own G6 _ _ s X Y row hs.2.2.2.1 hg hr, blk_own G8 _ _ s X Y row hs.2.2.2.2.1 hg hr, holdsRow_own N0 _ _ _ 2 (fun pre : List (LagT g0 g1) => pre.length) (fun pre => flatSp (pre.map (fun x : LagT g0 g1 => spanAt b0 b1 f0 f1 j0 j1 dr l fr (to_ - fr).toNat x.1))) (fun _ _ => True) s X Y row hs.2.2.2.2.2 hg hr⟩) _) (ownFrom_below (Nat.le_refl _) hbW.size))
    (fun _ _ _ _ _ hs _ _ => hs)
    ⟨⟨x3, x4, x5, x6, x8, _, x7, own_nil _ _ _ _, trivial⟩, hbW⟩
    (fun x => { tmps := #[.agg #[.int .i64 b0, .int .i64 b1, .int .i64 f0, .int .i64 f1, .int .i64 j0, .int .i64 j1, .int .i64 g0, .int .i64 g1, .int .i64 dr, .slice A n c, .int .i64 sc], .int .i64 fr, .int .i64 to_, .pointer (some ⟨G3, 0, none⟩), .pointer (some ⟨G4, 0, none⟩), .pointer (some ⟨G5, 0, none⟩), .pointer (some ⟨G6, 0, none⟩), .pointer (some ⟨G7, 0, none⟩), .int .i64 x.1, undef, undef, undef, .agg #[.int .i64 b0, .int .i64 b1, .int .i64 f0, .int .i64 f1, .int .i64 j0, .int .i64 j1, .int .i64 g0, .int .i64 g1, .int .i64 dr, .slice A n c, .int .i64 sc], .func (.func 35) #[] #[.pointer (some ⟨G8, 0, none⟩)], .int .i64 x.1, undef, undef, undef, undef, undef, undef, undef, undef, undef, undef, undef, undef, undef, undef, undef, undef, undef, undef, undef, undef, undef, undef, undef, undef, undef, undef, undef, undef, undef, undef], defers := [] }) ?assign ?body ?done ?stop
  case assign =>
    intro l' x W K hK
    gi_wp2
    exact hK
  case body =>
    clear x3 x4 x5 x6 x7 x8 hbW hst
    rintro l' pre ⟨x, hx0, hx1⟩ W ⟨⟨x3, x4, x5, x6, x8, v, x7, hrow, _⟩, hB⟩ hlen
    simp only
    have l7 := blk_lt x7
    have hNW : N0 ≤ W.heap.size := by have := blk_lt x8; have := HN8.out; omega
    have n97 : W.heap.size ≠ G7 := by omega
    have lt9 := blk_lt x3
    have lt4 := blk_lt x4
    have lt5 := blk_lt x5
    have hle9 : w.heap.size ≤ W.heap.size := hB.size
    have o9 : v.ownBlock ≠ some W.heap.size := fun e => by have := own_lt hrow _ e; omega
    obtain ⟨W1, hW1⟩ : ∃ W1, W.alloc (.cells #[.int .i64 0, .int .i64 0] 23) = W1 := ⟨_, rfl⟩
    have y3 : W1.heap[G3]? = some (.cells #[.int .i64 b0, .int .i64 b1, .int .i64 f0, .int .i64 f1, .int .i64 j0, .int .i64 j1, .int .i64 g0, .int .i64 g1, .int .i64 dr, .slice A n c, .int .i64 sc] 52) := hW1 ▸ blk_alloc x3 _
    have y4 : W1.heap[G4]? = some (.cells #[.int .i64 fr] 3) := hW1 ▸ blk_alloc x4 _
    have y5 : W1.heap[G5]? = some (.cells #[.int .i64 to_] 3) := hW1 ▸ blk_alloc x5 _
    have y9 : W1.heap[W.heap.size]? = some (.cells #[.int .i64 0, .int .i64 0] 23) := hW1 ▸ blk_new _ _
    have hB1 : Below w.heap.size w W1 := hW1 ▸ below_alloc hB _
    have hK1 : Below W.heap.size W W1 := hW1 ▸ below_alloc (Below.refl _ W) _
    have c4 : (W.alloc (.cells #[.int .i64 0, .int .i64 0] 23)).cell? ⟨G4, 0, none⟩ = some (.int .i64 fr) := hW1 ▸ (blk_cell y4 0).trans rfl
    have c5 : (W.alloc (.cells #[.int .i64 0, .int .i64 0] 23)).cell? ⟨G5, 0, none⟩ = some (.int .i64 to_) := hW1 ▸ (blk_cell y5 0).trans rfl
    have hsub : fr ≤ 1000 ∧ to_ ≤ 1000 := by have := HLK.out.1; have := HLN.out; omega
    have X3 := Aside0.mk x3
    have X4 := Aside0.mk x4
    have X5 := Aside0.mk x5
    have X6 := Aside0.mk x6
    have X7 := Aside0.mk x7
    have X8 := Aside0.mk x8
    have HROW := Aside0.mk hrow
    have HB := Aside0.mk hB
    clear x3 x4 x5 x6 x7 x8 hrow hB
    have HW1 := Aside0.mk hW1
    clear hW1 y3 y4 y5 y9 hB1 hK1
    gi_wp2
    rw [HW1.out]
    have hW1 := HW1.out
    have y3 : W1.heap[G3]? = some (.cells #[.int .i64 b0, .int .i64 b1, .int .i64 f0, .int .i64 f1, .int .i64 j0, .int .i64 j1, .int .i64 g0, .int .i64 g1, .int .i64 dr, .slice A n c, .int .i64 sc] 52) := hW1 ▸ blk_alloc X3.out _
    have y4 : W1.heap[G4]? = some (.cells #[.int .i64 fr] 3) := hW1 ▸ blk_alloc X4.out _
    have y5 : W1.heap[G5]? = some (.cells #[.int .i64 to_] 3) := hW1 ▸ blk_alloc X5.out _
    have y9 : W1.heap[W.heap.size]? = some (.cells #[.int .i64 0, .int .i64 0] 23) := hW1 ▸ blk_new _ _
    have hB1 : Below w.heap.size w W1 := hW1 ▸ below_alloc HB.out _
    have hK1 : Below W.heap.size W W1 := hW1 ▸ below_alloc (Below.refl _ W) _
    clear c4 c5
    have Y3 := Aside0.mk y3
    have Y4 := Aside0.mk y4
    have Y5 := Aside0.mk y5
    have Y9 := Aside0.mk y9
    have HB1 := Aside0.mk hB1
    have HK1 := Aside0.mk hK1
    clear y3 y4 y5 y9 hB1 hK1 hW1
    obtain ⟨G9, hG9⟩ : ∃ G, G = W.heap.size := ⟨_, rfl⟩
    rw [← hG9] at n97 hle9 o9 Y9 l7 lt9 lt4 lt5 hNW ⊢
    have HG9 := Aside0.mk hG9
    clear hG9
    gi_loopw [18] (fun s18 wr => ∃ (k : Nat), s18 = .int .i64 k ∧ (k : Int) ≤ to_ - fr ∧ Aside0 (Below w.heap.size w wr) ∧ Aside0 (KeepBut W1 wr G9 none) ∧ Aside0 (wr.heap[G9]? = some (.cells #[.int .i64 (sumH false b0 b1 f0 f1 j0 j1 dr l fr x k), .int .i64 (sumH true b0 b1 f0 f1 j0 j1 dr l fr x k)] 23)))
      (fun s18 wr => 1000 - (intOf s18).toNat)
    case atStart => exact ⟨0, rfl, by omega, HB1, ⟨KeepBut.refl _ _ _⟩, Y9⟩
    case round =>
      clear HB1
      obtain ⟨k, rfl, hk, HB2, HKB, Z9⟩ := hrel
      by_cases hlt : (k : Int) < to_ - fr
      · have z3 := HKB.out.blk Y3.out (by omega) (by simp)
        have z4 := HKB.out.blk Y4.out (by omega) (by simp)
        have z5 := HKB.out.blk Y5.out (by omega) (by simp)
        have d0 : wr.cell? ⟨G3, 0, none⟩ = some (.int .i64 b0) := (blk_cell z3 0).trans rfl
        have d1 : wr.cell? ⟨G3, 1, none⟩ = some (.int .i64 b1) := (blk_cell z3 1).trans rfl
        have d2 : wr.cell? ⟨G3, 2, none⟩ = some (.int .i64 f0) := (blk_cell z3 2).trans rfl
        have d3 : wr.cell? ⟨G3, 3, none⟩ = some (.int .i64 f1) := (blk_cell z3 3).trans rfl
        have d4 : wr.cell? ⟨G3, 4, none⟩ = some (.int .i64 j0) := (blk_cell z3 4).trans rfl
        have d5 : wr.cell? ⟨G3, 5, none⟩ = some (.int .i64 j1) := (blk_cell z3 5).trans rfl
        have d6 : wr.cell? ⟨G3, 6, none⟩ = some (.int .i64 g0) := (blk_cell z3 6).trans rfl
        have d7 : wr.cell? ⟨G3, 7, none⟩ = some (.int .i64 g1) := (blk_cell z3 7).trans rfl
        have d8 : wr.cell? ⟨G3, 8, none⟩ = some (.int .i64 dr) := (blk_cell z3 8).trans rfl
        have d9 : wr.cell? ⟨G3, 9, none⟩ = some (.slice A n c) := (blk_cell z3 9).trans rfl
        have d10 : wr.cell? ⟨G3, 10, none⟩ = some (.int .i64 sc) := (blk_cell z3 10).trans rfl
        have d11 : wr.cell? ⟨G4, 0, none⟩ = some (.int .i64 fr) := (blk_cell z4 0).trans rfl
        have hrd := rd_ok HLK.out (fr + k + x)
        clear z3 z4 z5
        have hc := heat_calls b0 b1 f0 f1 j0 j1 g0 g1 dr HH.out A c l sc (fr + k) x wr (by rw [HLN.out]; exact Kd.C_below HR.out HB2.out) (by omega) (by omega) (by omega) (by omega) (by rw [HLN.out]; omega) hrd.1 hrd.2 (HGL.out.below HB2.out)
        rw [HLN.out] at hc
        have HC := Aside0.mk hc
        clear hc
        gi_wp2_with fail
        refine ⟨trivial, CallsIn.inRound l' (callsIn_wide.2 ?_)⟩
        refine HC.out.mono ?_
        rintro e w2 ⟨rfl, hb⟩
        clear d0 d1 d2 d3 d4 d5 d6 d7 d8 d9 d10 d11 HC
        have hS0 := sumH_ok (k := false) HH.out HLK.out fr x k
        have hS1 := sumH_ok (k := true) HH.out HLK.out fr x k
        have hS2 := sumH_ok (k := false) HH.out HLK.out fr x (k + 1)
        have hS3 := sumH_ok (k := true) HH.out HLK.out fr x (k + 1)
        have hq0 : sumH false b0 b1 f0 f1 j0 j1 dr l fr x (k + 1) = sumH false b0 b1 f0 f1 j0 j1 dr l fr x k + heatF false b0 b1 f0 f1 j0 j1 dr (rd l (fr + k + x)) := rfl
        have hq1 : sumH true b0 b1 f0 f1 j0 j1 dr l fr x (k + 1) = sumH true b0 b1 f0 f1 j0 j1 dr l fr x k + heatF true b0 b1 f0 f1 j0 j1 dr (rd l (fr + k + x)) := rfl
        have Hq0 := Aside0.mk hq0
        have Hq1 := Aside0.mk hq1
        generalize sumH false b0 b1 f0 f1 j0 j1 dr l fr x k = p at *
        generalize sumH true b0 b1 f0 f1 j0 j1 dr l fr x k = q at *
        generalize heatF false b0 b1 f0 f1 j0 j1 dr (rd l (fr + k + x)) = hp at *
        generalize heatF true b0 b1 f0 f1 j0 j1 dr (rd l (fr + k + x)) = hq at *
        have hpq : -9000000000000000000 ≤ p + hp ∧ p + hp ≤ 9000000000000000000 ∧ -9000000000000000000 ≤ q + hq ∧ q + hq ≤ 9000000000000000000 := by omega
        clear hq0 hq1 hS0 hS1 hS2 hS3 hrd
        have b9 := blk_below Z9.out hb
        have hB3 := below_step HB2.out hb
        have hK3 : KeepBut W1 w2 G9 none := HKB.out.trans (KeepBut.of_below hb G9 none) (.inl rfl)
        have a9 := blk_alloc b9 (.cells #[.int .i64 hp, .int .i64 hq] 23)
        have d0 := (blk_cell a9 0).trans rfl
        have d1 := (blk_cell a9 1).trans rfl
        have d2 := blk_frozen a9 0
        have d3 := blk_frozen a9 1
        have B9 := Aside0.mk a9
        have HB3 := Aside0.mk (below_alloc hB3 (.cells #[.int .i64 hp, .int .i64 hq] 23))
        have HK3 := Aside0.mk (keep_alloc hK3 (.cells #[.int .i64 hp, .int .i64 hq] 23))
        clear b9 hB3 hK3 a9 hb HKB HB2 Z9
        gi_wp2
        go_roundw
        case rel =>
          refine ⟨k + 1, by go_num, by omega, ⟨below_set (below_set HB3.out hle9) hle9⟩, ⟨(HK3.out.set_ 0 _).set_ 1 _⟩, ⟨?_⟩⟩
          rw [Hq0.out, Hq1.out]
          refine blk_put (cs := #[.int .i64 (p + hp), .int .i64 q]) ?_ 1 _ rfl
          exact blk_put (cs := #[.int .i64 p, .int .i64 q]) B9.out 0 _ rfl
        case measure => simp [intOf]; omega
      · have HKE := Aside0.mk (show (k : Int) = to_ - fr by omega)
        clear hk
        have hKO1 : KeepsOthers W W1 := kb_below (by have := HK1.out; exact this)
        have hKO2 : KeepsOthers W1 wr := kb_keepBut HKB.out Y9.out
        have hv1 : Boxed W1 G7 61 v := HW1.out ▸ blk_alloc X7.out _
        have hv : Boxed wr G7 61 v := HKB.out.blk hv1 (Ne.symm n97) (by simp)
        have hrow1 : W1.ownsRow N0 23 2 v pre.length (flatSp (pre.map (fun x : LagT g0 g1 => spanAt b0 b1 f0 f1 j0 j1 dr l fr (to_ - fr).toNat x.1))) := by
          have h0 := HROW.out.alloc (.cells #[.int .i64 0, .int .i64 0] 23)
          rw [HW1.out] at h0
          exact h0
        have hrow : wr.ownsRow N0 23 2 v pre.length (flatSp (pre.map (fun x : LagT g0 g1 => spanAt b0 b1 f0 f1 j0 j1 dr l fr (to_ - fr).toNat x.1))) := by
          refine HKB.out.own hrow1 o9 ?_
          cases hv' : v.ownBlock with
          | none => exact .inl rfl
          | some _ => exact .inr (by simp)
        have z3 := HKB.out.blk Y3.out (by omega) (by simp)
        have z4 := HKB.out.blk Y4.out (by omega) (by simp)
        have z5 := HKB.out.blk Y5.out (by omega) (by simp)
        have z6 := HKB.out.blk (show W1.heap[G6]? = some (.cells #[.int .i64 0, .int .i64 0] 23) from HW1.out ▸ blk_alloc X6.out _) (by have := blk_lt X6.out; have := HG9.out; omega) (by simp)
        have z8 := HKB.out.blk (show W1.heap[G8]? = some (.cells (ductC b0 b1 f0 f1 j0 j1 g0 g1 dr A n c sc) 52) from HW1.out ▸ blk_alloc X8.out _) (by have := blk_lt X8.out; have := HG9.out; omega) (by simp)
        have hcap : v = v := rfl
        have Hfl : Aside0 (flatSp (pre.map (fun x : LagT g0 g1 => spanAt b0 b1 f0 f1 j0 j1 dr l fr (to_ - fr).toNat x.1)) ++ [.int .i64 (sumH false b0 b1 f0 f1 j0 j1 dr l fr x k), .int .i64 (sumH true b0 b1 f0 f1 j0 j1 dr l fr x k)] = flatSp ((pre ++ [(⟨x, hx0, hx1⟩ : LagT g0 g1)]).map (fun x : LagT g0 g1 => spanAt b0 b1 f0 f1 j0 j1 dr l fr (to_ - fr).toNat x.1))) := ⟨by
          rw [List.map_append, flatSp_append, show (to_ - fr).toNat = k from by have := HKE.out; omega]
          rfl⟩
        generalize sumH false b0 b1 f0 f1 j0 j1 dr l fr x k = p at *
        generalize sumH true b0 b1 f0 f1 j0 j1 dr l fr x k = q at *
        generalize hfl : flatSp (pre.map (fun x : LagT g0 g1 => spanAt b0 b1 f0 f1 j0 j1 dr l fr (to_ - fr).toNat x.1)) = fl at *
        clear hfl
        have ha1 := (blk_cell Z9.out 0).trans rfl
        have ha2 := (blk_cell Z9.out 1).trans rfl
        have ha3 := hv.cell
        have hsz := HB2.out.size
        have HV := Aside0.mk hv
        have ZZ3 := Aside0.mk z3
        have ZZ4 := Aside0.mk z4
        have ZZ5 := Aside0.mk z5
        have ZZ6 := Aside0.mk z6
        have ZZ8 := Aside0.mk z8
        have HKO := Aside0.mk (hKO1.trans hKO2)
        have HRW := Aside0.mk hrow
        clear hKO1 hKO2 hv hv1 hrow hrow1 z3 z4 z5 z6 z8 hcap
        obtain ⟨i0, hi, hz, hsz', hby⟩ := info_parts infoS
        have hbig : N0 ≤ wr.heap.size + 1 := by have := blk_lt Z9.out; omega
        have hne7 : Aside0 (∀ g, g < N0 → some g ≠ v.ownBlock) := ⟨fun g hg e => by have := own_base HRW.out g e.symm; omega⟩
        have hnews := news_two wr 23 (.int .i64 p) (.int .i64 q)
        have HNEWS := Aside0.mk hnews
        have h1c : Aside0 (∀ u ∈ ([.int .i64 p, .int .i64 q] : List Value), u.oneCell' = true) := ⟨by simp [Value.oneCell']⟩
        have h16 : (pre.length + 1) * 16 ≤ 140737488355328 := by omega
        clear hnews
        have hlen' : pre.length + 1 ≤ maxLen := by unfold maxLen; omega
        gi_wp2_with ((gi_at_builtin; go_must (refine wpListIn_append_own_at _ rfl _ _ 61 rfl N0 23 i0 (.agg #[.int .i64 0, .int .i64 0]) 2 16 Tryd.underlying61 hi hz hsz' hby rfl (by decide) v pre.length fl rfl (HRW.out.alloc _) ⟨wr.heap.size, 0, none⟩ 1 1 [.int .i64 p, .int .i64 q] rfl rfl HNEWS.out h1c.out hlen' h16 (by simpa using hbig) ?_); intro v' w5 hown' hgrow hne hat; clear hne; obtain ⟨g', cap', rfl⟩ := ownsRow_succ hown'; have hq7 := blk_grown (blk_alloc HV.out _) hgrow (hne7.out G7 hl7); have hq8 := (blk_cell hq7 0).trans rfl; have hq9 := blk_frozen hq7 0; have HOWN := Aside0.mk hown'; have HGR := Aside0.mk hgrow; have HAT := Aside0.mk hat; have HQ7 := Aside0.mk hq7; clear hown' hgrow hat hq7))
        have k3 := blk_grown (blk_alloc ZZ3.out _) HGR.out (hne7.out G3 hl3)
        have k4 := blk_grown (blk_alloc ZZ4.out _) HGR.out (hne7.out G4 hl4)
        have k5 := blk_grown (blk_alloc ZZ5.out _) HGR.out (hne7.out G5 hl5)
        have k6 := blk_grown (blk_alloc ZZ6.out _) HGR.out (hne7.out G6 hl6)
        have k8 := blk_grown (blk_alloc ZZ8.out _) HGR.out (hne7.out G8 hl8)
        have kB := (below_alloc HB2.out (.cells #[.int .i64 p, .int .i64 q] 23)).grown HGR.out (below_alloc HB2.out (.cells #[.int .i64 p, .int .i64 q] 23)).size (fun k e => by have := own_base HRW.out k e; omega)
        have kO : KeepsOthers W w5 := (HKO.out.trans (KeepsOthers.alloc wr _)).trans (KeepsOthers.of_grownBy HGR.out (fun j o e ho => by
          obtain ⟨cells, hc⟩ := own_typed (HRW.out.alloc (.cells #[.int .i64 p, .int .i64 q] 23)) j e
          rw [hc] at ho
          cases ho
          rfl))
        refine ⟨kO.trans (KeepsOthers.setCell _ _ _), (blk_far k8 (Ne.symm n78) _).trans X8.out.symm, ⟨blk_far k3 (Ne.symm n73) _, blk_far k4 (Ne.symm n74) _, blk_far k5 (Ne.symm n75) _, blk_far k6 (Ne.symm n76) _, blk_far k8 (Ne.symm n78) _, _, blk_put HQ7.out 0 _ rfl, ?_, trivial⟩, below_set kB hle7⟩
        have hfin := ownsRow_setCell_below HOWN.out (a := ⟨G7, 0, none⟩) (by exact hl7) (.slice (some ⟨g', 0, none⟩) (pre.length + 1) cap')
        rw [Hfl.out] at hfin
        rw [List.length_append]
        exact hfin
  case done =>
    clear x3 x4 x5 x6 x7 x8 hst hbW
    rintro D ys W hD hS ⟨⟨x3, x4, x5, x6, x8, v, x7, hrow, _⟩, hB⟩ hK
    have hmap : ys.map (fun x : LagT g0 g1 => spanAt b0 b1 f0 f1 j0 j1 dr l fr (to_ - fr).toNat x.1) = (upFrom g0 (g1 - g0 + 1).toNat).map (spanAt b0 b1 f0 f1 j0 j1 dr l fr (to_ - fr).toNat) := by
      rw [← hS, List.map_map]
      rfl
    rw [show (g1 - g0 + 1).toNat = (g1 - g0).toNat + 1 from by omega, upFrom_cons, List.map_cons] at hmap
    rw [hmap] at hrow
    have hlen : ys.length = (g1 - g0).toNat + 1 := by
      have := congrArg List.length hS
      simp [upFrom] at this
      omega
    rw [hlen] at hrow
    obtain ⟨S, hSd⟩ : ∃ S, S = sumS b0 b1 f0 f1 j0 j1 g0 g1 dr l fr to_ := ⟨_, rfl⟩
    have HSD := Aside0.mk hSd
    unfold sumS at hSd
    generalize spanAt b0 b1 f0 f1 j0 j1 dr l fr (to_ - fr).toNat g0 = s0 at *
    generalize hrest : (upFrom (g0 + 1) (g1 - g0).toNat).map (spanAt b0 b1 f0 f1 j0 j1 dr l fr (to_ - fr).toNat) = rest at *
    have hrl : rest.length = (g1 - g0).toNat := by rw [← hrest]; simp [upFrom]
    rw [← hrl] at hrow
    obtain ⟨A', c', hv, hcap, hread⟩ := own_spans hrow
    subst hv
    have hc := widest_calls A' c' s0 rest hcap W hread
    rw [← hSd] at hc
    obtain ⟨S0, S1⟩ := S
    simp only [spanV] at hc
    have HC := Aside0.mk hc
    have h7 := (blk_cell x7 0).trans rfl
    have nD6 : D ≠ G6 := fun e => by subst e; rw [hK] at x6; cases x6
    have X6 := Aside0.mk x6
    have HB := Aside0.mk hB
    have HK := Aside0.mk hK
    have HD := Aside0.mk hD
    clear hc x3 x4 x5 x6 x7 x8 hB hK hD hrow hread hcap hSd hS hmap hlen hrl hrest
    gi_wp2_with fail
    refine ⟨trivial, callsIn_wide.2 ?_⟩
    refine HC.out.mono ?_
    rintro e w2 ⟨rfl, hb⟩
    have y6 := blk_below X6.out hb
    have yK := blk_below HK.out hb
    have HB2 := Aside0.mk (below_step HB.out hb)
    have d0 := blk_frozen y6 0
    have d1 := blk_frozen y6 1
    have e0 := (blk_cell y6 0).trans rfl
    have e1 := (blk_cell y6 1).trans rfl
    have Y6 := Aside0.mk y6
    have YK := Aside0.mk yK
    clear y6 yK hb HC
    gi_wp2
    have hK' : ((w2.setCell ⟨G6, 0, none⟩ (.int .i64 S0)).setCell ⟨G6, 1, none⟩ (.int .i64 S1)).heap[D]? = some (.deferred (some [])) :=
      (Below.heap_setCell _ ⟨G6, 1, none⟩ _ _ nD6).trans ((Below.heap_setCell w2 ⟨G6, 0, none⟩ _ _ nD6).trans YK.out)
    have h6 : ((w2.setCell ⟨G6, 0, none⟩ (.int .i64 S0)).setCell ⟨G6, 1, none⟩ (.int .i64 S1)).heap[G6]? = some (.cells #[.int .i64 S0, .int .i64 S1] 23) := blk_put (cs := #[.int .i64 S0, .int .i64 0]) (blk_put (cs := #[.int .i64 0, .int .i64 0]) Y6.out 0 _ rfl) 1 _ rfl
    have hBB := below_set (below_set HB2.out hle6 (v := .int .i64 S0) (j := 0)) hle6 (v := .int .i64 S1) (j := 1)
    refine ⟨by simp, .inl ⟨_, _, rfl, run_takeDeferred hK', ?_⟩⟩
    have hsz0 : w.heap.size ≤ W0.heap.size := by have := HN0.out; omega
    refine ⟨_, results_cell_row rfl _ _ G6 23 _ _ (.struct _) rfl ((World.putObj_heap_other (Ne.symm nD6)).trans h6) rfl rfl rfl, ?_, ?_⟩
    · rw [← HSD.out]
      rfl
    · exact hBB.trans (belowK_b (w := w) (Nat.le_refl _) _ D _ _ (by have := HD.out; omega) hK' rfl rfl)
  case stop =>
    rintro D c' pre W _ _ h _
    exact h.elim
end Go.Proofs.YtaijhbliagjeaaaDoor
namespace Go.Proofs.YtaijhbliagjeaaaDoor
open Go.RowKit Go.Proofs.YtaijhbliagjeaaaDoorW.PrintWords Go.Proofs.YtaijhbliagjeaaaDoorW.PrintMore Go.Proofs.YtaijhbliagjeaaaDoor.PC2
set_option linter.unusedVariables false
set_option linter.unusedSimpArgs false
theorem C_ints {w : World} {g : Nat} {t : TypeId} (xs : List Int) (hn : xs.length ≤ 9223372036854775807) (h : w.heap[g]? = some (.cells (xs.map (Value.int .i64)).toArray t)) : Kd.C (Kd.int .i64) w (some ⟨g, 0, none⟩) xs.length xs := by
  refine ⟨rfl, hn, fun _ => ⟨_, rfl, ?_⟩⟩
  intro j p hj
  refine ⟨[.int .i64 p], rfl, rfl, ?_⟩
  intro i u hi
  cases i with
  | zero =>
    simp at hi
    subst hi
    have := blk_cell h j
    rw [add_plain]
    show w.cell? ⟨g, j * 1 + 0, none⟩ = _
    rw [Nat.mul_one, Nat.add_zero, this]
    simp [hj]
  | succ i => simp at hi
instance (b0 b1 f0 f1 j0 j1 g0 g1 dr : Int) : Decidable (HoodOK b0 b1 f0 f1 j0 j1 g0 g1 dr) := by unfold HoodOK; infer_instance
instance (l : List Int) : Decidable (ReadsOK l) := by unfold ReadsOK; infer_instance
/-- what the sum of some seconds is, where all is in its limits -/
def sumG (b0 b1 f0 f1 j0 j1 g0 g1 dr : Int) (l : List Int) (fr to_ : Int) : Option (Int × Int) :=
  if HoodOK b0 b1 f0 f1 j0 j1 g0 g1 dr ∧ ReadsOK l ∧ 0 ≤ fr ∧ fr ≤ to_ ∧ ((fr = to_ ∧ to_ ≤ 1000) ∨ to_ + g1 ≤ l.length) then some (sumS b0 b1 f0 f1 j0 j1 g0 g1 dr l fr to_) else none
theorem sumG_calls (b0 b1 f0 f1 j0 j1 g0 g1 dr : Int) (A : Option Addr) (c : Nat) (l : List Int) (sc fr to_ p q : Int) (h : sumG b0 b1 f0 f1 j0 j1 g0 g1 dr l fr to_ = some (p, q)) (w : World) (hr : Kd.C (Kd.int .i64) w A l.length l) (hG : GlobOK w) :
    Calls Tryd.prog 28 #[.agg #[.int .i64 b0, .int .i64 b1, .int .i64 f0, .int .i64 f1, .int .i64 j0, .int .i64 j1, .int .i64 g0, .int .i64 g1, .int .i64 dr, .slice A l.length c, .int .i64 sc], .int .i64 fr, .int .i64 to_] w
      fun e w' => e = .returned (.agg #[.int .i64 p, .int .i64 q]) ∧ Below w.heap.size w w' := by
  unfold sumG at h
  split at h
  · rename_i hc
    obtain ⟨h1, h2, h3, h4, h5⟩ := hc
    have := sum_calls b0 b1 f0 f1 j0 j1 g0 g1 dr h1 A c l h2 sc fr to_ w hr h3 h4 h5 hG
    rw [Option.some.inj h] at this
    exact this
  · simp at h
def inRange (lo hi : Int) (l : List Int) : Bool := !l.any fun x => decide (x < lo) || decide (hi < x)
def burn_Heat.f (k : Nat) (b0 b1 f0 f1 j0 j1 g0 g1 dr : Int) (l : List Int) (sec : Int) : Option (Int × Int × Int) :=
  (burn_Check.f k b0 b1 f0 f1 j0 j1 g0 g1 dr l).bind fun e => if e = 0 then (if inRange 0 (wrap64 (secS g1 l.length - 1)) [sec] = true then (sumG b0 b1 f0 f1 j0 j1 g0 g1 dr l sec (wrap64 (sec + 1))).map (fun p => (p.1, p.2, 0)) else some (0, 0, 2)) else some (0, 0, e)
theorem burn_Heat.mono : ∀ b0 b1 f0 f1 j0 j1 g0 g1 dr l sec k, LeO (burn_Heat.f k b0 b1 f0 f1 j0 j1 g0 g1 dr l sec) (burn_Heat.f (k + 1) b0 b1 f0 f1 j0 j1 g0 g1 dr l sec) := by
  intro b0 b1 f0 f1 j0 j1 g0 g1 dr l sec k
  unfold burn_Heat.f
  exact LeO.bind (burn_Check.mono _ _ _ _ _ _ _ _ _ _ _) (fun _ => LeO.refl _)
set_option maxHeartbeats 4000000 in
set_option maxRecDepth 100000 in
theorem burn_Heat.calls (k : Nat) (b0 b1 f0 f1 j0 j1 g0 g1 dr : Int) (A : Option Addr) (c : Nat) (l : List Int) (sec : Int) (r1 r2 r3 : Int) (w : World) (hr : Kd.C (Kd.int .i64) w A l.length l) (hc : l.length ≤ c) (hG : GlobOK w) (h : burn_Heat.f k b0 b1 f0 f1 j0 j1 g0 g1 dr l sec = some (r1, r2, r3)) :
    Calls Tryd.prog 10 #[.agg #[.int .i64 b0, .int .i64 b1, .int .i64 f0, .int .i64 f1, .int .i64 j0, .int .i64 j1, .int .i64 g0, .int .i64 g1, .int .i64 dr], .slice A l.length c, .int .i64 sec] w fun e w' => e = .returned (.tuple #[.agg #[.int .i64 r1, .int .i64 r2], .int .i64 r3]) ∧ Below w.heap.size w w' := by
  unfold burn_Heat.f at h
  obtain ⟨e0, hck, h⟩ := Option.bind_eq_some_iff.1 h
  have H1 := fun W hr => open_calls k b0 b1 f0 f1 j0 j1 g0 g1 dr A c l e0 W hr hc hck
  have HO := Aside0.mk H1
  have HR := Aside0.mk hr
  have HGL := Aside0.mk hG
  unfold ductC at HO
  clear H1 hr hG hck
  go_enter Tryd.func10, Tryd.ntmps10
  go_wp2_with fail
  obtain ⟨W, hW⟩ : ∃ W, (w.alloc (.cells #[.int .i64 b0, .int .i64 b1, .int .i64 f0, .int .i64 f1, .int .i64 j0, .int .i64 j1, .int .i64 g0, .int .i64 g1, .int .i64 dr] 25)).alloc (.cells #[.int .i64 0, .int .i64 0] 23) = W := ⟨_, rfl⟩
  rw [hW]
  have hbW : Below w.heap.size w W := hW ▸ below_alloc (below_alloc (Below.refl _ w) _) _
  have b6 : W.heap[w.heap.size + 1]? = some (.cells #[.int .i64 0, .int .i64 0] 23) := hW ▸ blk_new_at _ _ (by simp)
  clear hW
  have hle : w.heap.size ≤ w.heap.size + 1 := by omega
  generalize w.heap.size + 1 = G6 at *
  refine (HO.out W (Kd.C_below HR.out hbW)).mono ?_
  rintro e w1 ⟨rfl, hb1⟩
  have HB1 := Aside0.mk (below_step hbW hb1)
  replace b6 := blk_below b6 hb1
  clear hb1 hbW HO
  by_cases he : e0 = 0
  · rw [if_pos he] at h
    subst he
    have hlt := blk_lt b6
    have X6 := Aside0.mk b6
    clear b6
    go_wp2_with fail
    obtain ⟨W2, hW2⟩ : ∃ W2, (w1.alloc (.cells #[.int .i64 b0, .int .i64 b1, .int .i64 f0, .int .i64 f1, .int .i64 j0, .int .i64 j1, .int .i64 g0, .int .i64 g1, .int .i64 dr, .slice A l.length c, .int .i64 (secS g1 l.length)] 52)).alloc (.cells #[.int .i64 sec] 3) = W2 := ⟨_, rfl⟩
    rw [hW2]
    have hB2 : Below w.heap.size w W2 := hW2 ▸ below_alloc (below_alloc HB1.out _) _
    have y6 : W2.heap[G6]? = some (.cells #[.int .i64 0, .int .i64 0] 23) := hW2 ▸ blk_alloc (blk_alloc X6.out _) _
    have y8 : W2.heap[w1.heap.size]? = some (.cells #[.int .i64 b0, .int .i64 b1, .int .i64 f0, .int .i64 f1, .int .i64 j0, .int .i64 j1, .int .i64 g0, .int .i64 g1, .int .i64 dr, .slice A l.length c, .int .i64 (secS g1 l.length)] 52) := hW2 ▸ blk_alloc (blk_new _ _) _
    have y9 : W2.heap[w1.heap.size + 1]? = some (.cells #[.int .i64 sec] 3) := hW2 ▸ blk_new_at _ _ (by simp)
    clear hW2 X6
    generalize w1.heap.size + 1 = G9 at *
    generalize w1.heap.size = G8 at *
    refine (burn_in.calls 0 (wrap64 (secS g1 l.length - 1)) (some ⟨G9, 0, none⟩) 1 [sec] (inRange 0 (wrap64 (secS g1 l.length - 1)) [sec]) W2 (C_ints [sec] (by simp) y9) (by simp) rfl).mono ?_
    rintro e w3 ⟨rfl, hb3⟩
    have HB3 := Aside0.mk (below_step hB2 hb3)
    replace y6 := blk_below y6 hb3
    replace y8 := blk_below y8 hb3
    clear y9 hB2 hb3 HB1
    have c0_ := (blk_cell y8 0).trans rfl
    have c1_ := (blk_cell y8 1).trans rfl
    have c2_ := (blk_cell y8 2).trans rfl
    have c3_ := (blk_cell y8 3).trans rfl
    have c4_ := (blk_cell y8 4).trans rfl
    have c5_ := (blk_cell y8 5).trans rfl
    have c6_ := (blk_cell y8 6).trans rfl
    have c7_ := (blk_cell y8 7).trans rfl
    have c8_ := (blk_cell y8 8).trans rfl
    have c9_ := (blk_cell y8 9).trans rfl
    have c10_ := (blk_cell y8 10).trans rfl
    have f3_ := blk_frozen y6 0
    have f4_ := blk_frozen y6 1
    have d3_ := (blk_cell y6 0).trans rfl
    have d4_ := (blk_cell y6 1).trans rfl
    have Y6 := Aside0.mk y6
    clear y6 y8
    generalize hT : inRange 0 (wrap64 (secS g1 l.length - 1)) [sec] = t at *
    clear hT
    cases t
    · simp only [Bool.false_eq_true, ↓reduceIte, Option.some.injEq, Prod.mk.injEq] at h
      obtain ⟨rfl, rfl, rfl⟩ := h
      clear HR HGL
      go_wp2
      refine bodyPost_ret (results_ct rfl _ _ G6 23 #[.int .i64 0, .int .i64 0] (0, 0) _ rfl (by
        refine blk_put (cs := #[.int .i64 0, .int .i64 0]) ?_ 1 _ rfl
        refine blk_put (cs := #[.int .i64 0, .int .i64 0]) ?_ 0 _ rfl
        exact Y6.out) Tryd.underlying23 rfl (by kernel_rfl)) rfl ?_
      exact ⟨rfl, below_set (below_set HB3.out hle) hle⟩
    · rw [if_pos rfl] at h
      obtain ⟨⟨p, q⟩, hsm, h⟩ := Option.map_eq_some_iff.1 h
      simp only [Prod.mk.injEq] at h
      obtain ⟨rfl, rfl, rfl⟩ := h
      have HSM := Aside0.mk hsm
      clear hsm
      go_wp2_with (go_at_call 28; refine (sumG_calls b0 b1 f0 f1 j0 j1 g0 g1 dr A c l (secS g1 l.length) sec (wrap64 (sec + 1)) p q HSM.out _ (Kd.C_below HR.out HB3.out) (HGL.out.below HB3.out)).mono ?_; rintro e w4 ⟨rfl, hb4⟩; have z6 := blk_below Y6.out hb4; have HB4 := Aside0.mk (below_step HB3.out hb4); have g0_ := blk_frozen z6 0; have g1_ := blk_frozen z6 1; have i0_ := (blk_cell z6 0).trans rfl; have i1_ := (blk_cell z6 1).trans rfl; have Z6 := Aside0.mk z6; clear z6 hb4)
      refine bodyPost_ret (results_ct rfl _ _ G6 23 #[.int .i64 p, .int .i64 q] (0, 0) _ rfl (by
        refine blk_put (cs := #[.int .i64 p, .int .i64 0]) ?_ 1 _ rfl
        refine blk_put (cs := #[.int .i64 0, .int .i64 0]) ?_ 0 _ rfl
        exact Z6.out) Tryd.underlying23 rfl (by kernel_rfl)) rfl ?_
      exact ⟨rfl, below_set (below_set HB4.out hle) hle⟩
  · rw [if_neg he] at h
    simp only [Option.some.injEq, Prod.mk.injEq] at h
    obtain ⟨rfl, rfl, rfl⟩ := h
    have he1 : (e0 != 0) = true := bne_iff_ne.2 he
    clear he
    have BK := Aside0.mk b6
    have hlt := blk_lt b6
    have f3_ := blk_frozen b6 0
    have f4_ := blk_frozen b6 1
    have d3_ := (blk_cell b6 0).trans rfl
    have d4_ := (blk_cell b6 1).trans rfl
    clear b6
    go_wp2
    refine bodyPost_ret (results_ct rfl _ _ G6 23 #[.int .i64 0, .int .i64 0] (0, 0) _ rfl (by
      refine blk_alloc ?_ _
      refine blk_put (cs := #[.int .i64 0, .int .i64 0]) ?_ 1 _ rfl
      refine blk_put (cs := #[.int .i64 0, .int .i64 0]) ?_ 0 _ rfl
      exact BK.out) Tryd.underlying23 rfl (by kernel_rfl)) rfl ?_
    exact ⟨rfl, below_alloc (below_set (below_set HB1.out hle) hle) _⟩
def burn_Sum.f (k : Nat) (b0 b1 f0 f1 j0 j1 g0 g1 dr : Int) (l : List Int) (fr to_ : Int) : Option (Int × Int × Int) :=
  (burn_Check.f k b0 b1 f0 f1 j0 j1 g0 g1 dr l).bind fun e => if e = 0 then (if inRange 0 (secS g1 l.length) [fr, to_] = true ∧ fr ≤ to_ then (sumG b0 b1 f0 f1 j0 j1 g0 g1 dr l fr to_).map (fun p => (p.1, p.2, 0)) else some (0, 0, 2)) else some (0, 0, e)
theorem burn_Sum.mono : ∀ b0 b1 f0 f1 j0 j1 g0 g1 dr l fr to_ k, LeO (burn_Sum.f k b0 b1 f0 f1 j0 j1 g0 g1 dr l fr to_) (burn_Sum.f (k + 1) b0 b1 f0 f1 j0 j1 g0 g1 dr l fr to_) := by
  intro b0 b1 f0 f1 j0 j1 g0 g1 dr l fr to_ k
  unfold burn_Sum.f
  exact LeO.bind (burn_Check.mono _ _ _ _ _ _ _ _ _ _ _) (fun _ => LeO.refl _)
set_option maxHeartbeats 4000000 in
set_option maxRecDepth 100000 in
theorem burn_Sum.calls (k : Nat) (b0 b1 f0 f1 j0 j1 g0 g1 dr : Int) (A : Option Addr) (c : Nat) (l : List Int) (fr to_ : Int) (r1 r2 r3 : Int) (w : World) (hr : Kd.C (Kd.int .i64) w A l.length l) (hc : l.length ≤ c) (hG : GlobOK w) (h : burn_Sum.f k b0 b1 f0 f1 j0 j1 g0 g1 dr l fr to_ = some (r1, r2, r3)) :
    Calls Tryd.prog 11 #[.agg #[.int .i64 b0, .int .i64 b1, .int .i64 f0, .int .i64 f1, .int .i64 j0, .int .i64 j1, .int .i64 g0, .int .i64 g1, .int .i64 dr], .slice A l.length c, .int .i64 fr, .int .i64 to_] w fun e w' => e = .returned (.tuple #[.agg #[.int .i64 r1, .int .i64 r2], .int .i64 r3]) ∧ Below w.heap.size w w' := by
  unfold burn_Sum.f at h
  obtain ⟨e0, hck, h⟩ := Option.bind_eq_some_iff.1 h
  have H1 := fun W hr => open_calls k b0 b1 f0 f1 j0 j1 g0 g1 dr A c l e0 W hr hc hck
  have HO := Aside0.mk H1
  have HR := Aside0.mk hr
  have HGL := Aside0.mk hG
  unfold ductC at HO
  clear H1 hr hG hck
  go_enter Tryd.func11, Tryd.ntmps11
  go_wp2_with fail
  obtain ⟨W, hW⟩ : ∃ W, (w.alloc (.cells #[.int .i64 b0, .int .i64 b1, .int .i64 f0, .int .i64 f1, .int .i64 j0, .int .i64 j1, .int .i64 g0, .int .i64 g1, .int .i64 dr] 25)).alloc (.cells #[.int .i64 0, .int .i64 0] 23) = W := ⟨_, rfl⟩
  rw [hW]
  have hbW : Below w.heap.size w W := hW ▸ below_alloc (below_alloc (Below.refl _ w) _) _
  have b6 : W.heap[w.heap.size + 1]? = some (.cells #[.int .i64 0, .int .i64 0] 23) := hW ▸ blk_new_at _ _ (by simp)
  clear hW
  have hle : w.heap.size ≤ w.heap.size + 1 := by omega
  generalize w.heap.size + 1 = G6 at *
  refine (HO.out W (Kd.C_below HR.out hbW)).mono ?_
  rintro e w1 ⟨rfl, hb1⟩
  have HB1 := Aside0.mk (below_step hbW hb1)
  replace b6 := blk_below b6 hb1
  clear hb1 hbW HO
  by_cases he : e0 = 0
  · rw [if_pos he] at h
    subst he
    have hlt := blk_lt b6
    have X6 := Aside0.mk b6
    clear b6
    go_wp2_with fail
    obtain ⟨W2, hW2⟩ : ∃ W2, (w1.alloc (.cells #[.int .i64 b0, .int .i64 b1, .int .i64 f0, .int .i64 f1, .int .i64 j0, .int .i64 j1, .int .i64 g0, .int .i64 g1, .int .i64 dr, .slice A l.length c, .int .i64 (secS g1 l.length)] 52)).alloc (.cells #[.int .i64 fr, .int .i64 to_] 3) = W2 := ⟨_, rfl⟩
    rw [hW2]
    have hB2 : Below w.heap.size w W2 := hW2 ▸ below_alloc (below_alloc HB1.out _) _
    have y6 : W2.heap[G6]? = some (.cells #[.int .i64 0, .int .i64 0] 23) := hW2 ▸ blk_alloc (blk_alloc X6.out _) _
    have y8 : W2.heap[w1.heap.size]? = some (.cells #[.int .i64 b0, .int .i64 b1, .int .i64 f0, .int .i64 f1, .int .i64 j0, .int .i64 j1, .int .i64 g0, .int .i64 g1, .int .i64 dr, .slice A l.length c, .int .i64 (secS g1 l.length)] 52) := hW2 ▸ blk_alloc (blk_new _ _) _
    have y9 : W2.heap[w1.heap.size + 1]? = some (.cells #[.int .i64 fr, .int .i64 to_] 3) := hW2 ▸ blk_new_at _ _ (by simp)
    clear hW2 X6
    generalize w1.heap.size + 1 = G9 at *
    generalize w1.heap.size = G8 at *
    refine (burn_in.calls 0 (secS g1 l.length) (some ⟨G9, 0, none⟩) 2 [fr, to_] (inRange 0 (secS g1 l.length) [fr, to_]) W2 (C_ints [fr, to_] (by simp) y9) (by simp) rfl).mono ?_
    rintro e w3 ⟨rfl, hb3⟩
    have HB3 := Aside0.mk (below_step hB2 hb3)
    replace y6 := blk_below y6 hb3
    replace y8 := blk_below y8 hb3
    clear y9 hB2 hb3 HB1
    have c0_ := (blk_cell y8 0).trans rfl
    have c1_ := (blk_cell y8 1).trans rfl
    have c2_ := (blk_cell y8 2).trans rfl
    have c3_ := (blk_cell y8 3).trans rfl
    have c4_ := (blk_cell y8 4).trans rfl
    have c5_ := (blk_cell y8 5).trans rfl
    have c6_ := (blk_cell y8 6).trans rfl
    have c7_ := (blk_cell y8 7).trans rfl
    have c8_ := (blk_cell y8 8).trans rfl
    have c9_ := (blk_cell y8 9).trans rfl
    have c10_ := (blk_cell y8 10).trans rfl
    have f3_ := blk_frozen y6 0
    have f4_ := blk_frozen y6 1
    have d3_ := (blk_cell y6 0).trans rfl
    have d4_ := (blk_cell y6 1).trans rfl
    have Y6 := Aside0.mk y6
    clear y6 y8
    generalize hT : inRange 0 (secS g1 l.length) [fr, to_] = t at *
    clear hT
    cases t
    · simp only [Bool.false_eq_true, false_and, ↓reduceIte, Option.some.injEq, Prod.mk.injEq] at h
      obtain ⟨rfl, rfl, rfl⟩ := h
      clear HR HGL
      go_wp2
      refine bodyPost_ret (results_ct rfl _ _ G6 23 #[.int .i64 0, .int .i64 0] (0, 0) _ rfl (by
        refine blk_put (cs := #[.int .i64 0, .int .i64 0]) ?_ 1 _ rfl
        refine blk_put (cs := #[.int .i64 0, .int .i64 0]) ?_ 0 _ rfl
        exact Y6.out) Tryd.underlying23 rfl (by kernel_rfl)) rfl ?_
      exact ⟨rfl, below_set (below_set HB3.out hle) hle⟩
    · by_cases hgt : to_ < fr
      · rw [if_neg (fun hh => by have := hh.2; omega)] at h
        simp only [Option.some.injEq, Prod.mk.injEq] at h
        obtain ⟨rfl, rfl, rfl⟩ := h
        go_wp2
        refine bodyPost_ret (results_ct rfl _ _ G6 23 #[.int .i64 0, .int .i64 0] (0, 0) _ rfl (by
          refine blk_put (cs := #[.int .i64 0, .int .i64 0]) ?_ 1 _ rfl
          refine blk_put (cs := #[.int .i64 0, .int .i64 0]) ?_ 0 _ rfl
          exact Y6.out) Tryd.underlying23 rfl (by kernel_rfl)) rfl ?_
        exact ⟨rfl, below_set (below_set HB3.out hle) hle⟩
      · rw [if_pos ⟨rfl, by omega⟩] at h
        obtain ⟨⟨p, q⟩, hsm, h⟩ := Option.map_eq_some_iff.1 h
        simp only [Prod.mk.injEq] at h
        obtain ⟨rfl, rfl, rfl⟩ := h
        have HSM := Aside0.mk hsm
        clear hsm
        go_wp2_with (go_at_call 28; refine (sumG_calls b0 b1 f0 f1 j0 j1 g0 g1 dr A c l (secS g1 l.length) fr to_ p q HSM.out _ (Kd.C_below HR.out HB3.out) (HGL.out.below HB3.out)).mono ?_; rintro e w4 ⟨rfl, hb4⟩; have z6 := blk_below Y6.out hb4; have HB4 := Aside0.mk (below_step HB3.out hb4); have g0_ := blk_frozen z6 0; have g1_ := blk_frozen z6 1; have i0_ := (blk_cell z6 0).trans rfl; have i1_ := (blk_cell z6 1).trans rfl; have Z6 := Aside0.mk z6; clear z6 hb4)
        refine bodyPost_ret (results_ct rfl _ _ G6 23 #[.int .i64 p, .int .i64 q] (0, 0) _ rfl (by
          refine blk_put (cs := #[.int .i64 p, .int .i64 0]) ?_ 1 _ rfl
          refine blk_put (cs := #[.int .i64 0, .int .i64 0]) ?_ 0 _ rfl
          exact Z6.out) Tryd.underlying23 rfl (by kernel_rfl)) rfl ?_
        exact ⟨rfl, below_set (below_set HB4.out hle) hle⟩
  · rw [if_neg he] at h
    simp only [Option.some.injEq, Prod.mk.injEq] at h
    obtain ⟨rfl, rfl, rfl⟩ := h
    have he1 : (e0 != 0) = true := bne_iff_ne.2 he
    clear he
    have BK := Aside0.mk b6
    have hlt := blk_lt b6
    have f3_ := blk_frozen b6 0
    have f4_ := blk_frozen b6 1
    have d3_ := (blk_cell b6 0).trans rfl
    have d4_ := (blk_cell b6 1).trans rfl
    clear b6
    go_wp2
    refine bodyPost_ret (results_ct rfl _ _ G6 23 #[.int .i64 0, .int .i64 0] (0, 0) _ rfl (by
      refine blk_alloc ?_ _
      refine blk_put (cs := #[.int .i64 0, .int .i64 0]) ?_ 1 _ rfl
      refine blk_put (cs := #[.int .i64 0, .int .i64 0]) ?_ 0 _ rfl
      exact BK.out) Tryd.underlying23 rfl (by kernel_rfl)) rfl ?_
    exact ⟨rfl, below_alloc (below_set (below_set HB1.out hle) hle) _⟩
end Go.Proofs.YtaijhbliagjeaaaDoor
namespace Go.Proofs.YtaijhbliagjeaaaDoor
open Go.MapKept Go.RowKit
set_option linter.unusedVariables false
set_option linter.unusedSimpArgs false
def kvE (e : MapEntry) : Value × Value := (e.key, e.val)
def kvI (p : Int × Value) : Value × Value := (.int .i64 p.1, p.2)
/-- these entries are that list -/
structure Ents (es : Array MapEntry) (clock : Nat) (l : List (Int × Value)) : Prop where
  is : es.toList.map kvE = l.map kvI
  keys : (l.map (·.1)).Nodup
  born : ∀ e ∈ es.toList, e.born < clock
  once : (es.toList.map (·.born)).Nodup
def IMap (w : World) (b : Nat) (l : List (Int × Value)) : Prop := ∃ es clock, w.heap[b]? = some (.map es clock) ∧ Ents es clock l
def imGet {β : Type} (x : Int) : List (Int × β) → Option β
  | [] => none
  | p :: r => if p.1 = x then some p.2 else imGet x r
def imSet {β : Type} (x : Int) (v : β) : List (Int × β) → List (Int × β)
  | [] => [(x, v)]
  | p :: r => if p.1 = x then (x, v) :: r else p :: imSet x v r
def imDel {β : Type} (x : Int) : List (Int × β) → List (Int × β)
  | [] => []
  | p :: r => if p.1 = x then r else p :: imDel x r
theorem imGet_map {β γ : Type} (f : β → γ) (x : Int) : ∀ l : List (Int × β), imGet x (l.map fun p => (p.1, f p.2)) = (imGet x l).map f
  | [] => rfl
  | p :: r => by
    simp only [List.map_cons, imGet]
    split
    · rfl
    · exact imGet_map f x r
theorem imSet_map {β γ : Type} (f : β → γ) (x : Int) (v : β) : ∀ l : List (Int × β), imSet x (f v) (l.map fun p => (p.1, f p.2)) = (imSet x v l).map fun p => (p.1, f p.2)
  | [] => rfl
  | p :: r => by
    simp only [List.map_cons, imSet]
    split
    · rfl
    · rw [imSet_map f x v r]; rfl
theorem IMap.at_ {w w' : World} {b : Nat} {l : List (Int × Value)} (h : IMap w b l) (e : w'.heap[b]? = w.heap[b]?) : IMap w' b l := by
  obtain ⟨es, c, h1, h2⟩ := h
  exact ⟨es, c, e.trans h1, h2⟩
theorem IMap.lt {w : World} {b : Nat} {l : List (Int × Value)} (h : IMap w b l) : b < w.heap.size := by
  obtain ⟨es, c, h1, h2⟩ := h
  exact (Array.getElem?_eq_some_iff.1 h1).1
theorem IMap.alloc {w : World} {b : Nat} {l : List (Int × Value)} (h : IMap w b l) (o : Obj) : IMap (w.alloc o) b l := h.at_ (Below.heap_alloc w o b h.lt)
theorem IMap.setCell {w : World} {b : Nat} {l : List (Int × Value)} (h : IMap w b l) {p : Addr} (hp : b ≠ p.block) (v : Value) : IMap (w.setCell p v) b l := h.at_ (Below.heap_setCell w p v b hp)
theorem IMap.below {w w' : World} {b : Nat} {l : List (Int × Value)} (h : IMap w b l) (hb : Below w.heap.size w w') : IMap w' b l := h.at_ (hb.block b h.lt)
theorem IMap.drew {w : World} {b : Nat} {l : List (Int × Value)} (h : IMap w b l) : IMap w.drew b l := h
theorem IMap.new (w : World) : IMap (w.alloc (.map #[] 0)) w.heap.size [] := ⟨#[], 0, heap_alloc_new w _, ⟨rfl, by simp, by simp, by simp⟩⟩
theorem findNow_l (x : Int) : ∀ (l : List (Int × Value)) (es : List MapEntry) (i : Nat), es.map kvE = l.map kvI → (imGet x l = none ∧ Instr.findNow (.int .i64) (.int .i64 x) es i = some none) ∨ (∃ j v e, imGet x l = some v ∧ Instr.findNow (.int .i64) (.int .i64 x) es i = some (some (i + j, v)) ∧ es[j]? = some e ∧ e.key = .int .i64 x)
  | [], [], i, _ => .inl ⟨rfl, rfl⟩
  | [], _ :: _, _, h => by simp at h
  | _ :: _, [], _, h => by simp at h
  | p :: r, e :: es, i, h => by
    simp only [List.map_cons, List.cons.injEq] at h
    obtain ⟨h1, h2⟩ := h
    have hk : e.key = .int .i64 p.1 := congrArg Prod.fst h1
    have hv : e.val = p.2 := congrArg Prod.snd h1
    by_cases hx : p.1 = x
    · right
      refine ⟨0, p.2, e, by simp [imGet, hx], by simp [Instr.findNow, Instr.sameNow, hk, hx, hv], rfl, by rw [hk, hx]⟩
    · have hf : Instr.findNow (.int .i64) (.int .i64 x) (e :: es) i = Instr.findNow (.int .i64) (.int .i64 x) es (i + 1) := by
        have hx' : (x == p.1) = false := by simpa using fun h => hx h.symm
        simp [Instr.findNow, Instr.sameNow, hk, hx']
      have hg : imGet x (p :: r) = imGet x r := by simp [imGet, hx]
      rw [hf, hg]
      rcases findNow_l x r es (i + 1) h2 with h | ⟨j, v, e', a1, a2, a3, a4⟩
      · exact .inl h
      · exact .inr ⟨j + 1, v, e', a1, by rw [a2, show i + (j + 1) = i + 1 + j from by omega], by simpa using a3, a4⟩
section
variable {P : Program} {w : World} {t k e : TypeId} {b : Nat} {l : List (Int × Value)}
theorem IMap.look (h : IMap w b l) (ht : P.underlying t = some (.map k e)) (hk : P.underlying k = some (.int .i64)) {z : Value} (hz : (zeroValue e).run P w = .ok z w) (x : Int) :
    (Instr.lookup t (.map (some b)) (.int .i64 x) true).run P w = .ok (.tuple #[(imGet x l).getD z, .bool (imGet x l).isSome]) w := by
  obtain ⟨es, c, hb, hE⟩ := h
  have hkey : IsKey (.int .i64) (.int .i64 x) := rfl
  rcases findNow_l x l es.toList 0 hE.is with ⟨h1, h2⟩ | ⟨j, v, e', h1, h2, -, -⟩
  · simp [Instr.lookup, run_underlying ht, MapKept.run_getObj_map hb, run_checkKey hk hkey, run_findKey hk h2, hz, h1, Result.andThen]
  · simp [Instr.lookup, run_underlying ht, MapKept.run_getObj_map hb, run_checkKey hk hkey, run_findKey hk h2, h1, Result.andThen]
theorem IMap.look1 (h : IMap w b l) (ht : P.underlying t = some (.map k e)) (hk : P.underlying k = some (.int .i64)) {z : Value} (hz : (zeroValue e).run P w = .ok z w) (x : Int) :
    (Instr.lookup t (.map (some b)) (.int .i64 x) false).run P w = .ok ((imGet x l).getD z) w := by
  obtain ⟨es, c, hb, hE⟩ := h
  have hkey : IsKey (.int .i64) (.int .i64 x) := rfl
  rcases findNow_l x l es.toList 0 hE.is with ⟨h1, h2⟩ | ⟨j, v, e', h1, h2, -, -⟩
  · simp [Instr.lookup, run_underlying ht, MapKept.run_getObj_map hb, run_checkKey hk hkey, run_findKey hk h2, hz, h1, Result.andThen]
  · simp [Instr.lookup, run_underlying ht, MapKept.run_getObj_map hb, run_checkKey hk hkey, run_findKey hk h2, h1, Result.andThen]
theorem imSet_keys (x : Int) (v : Value) : ∀ l : List (Int × Value), (imGet x l = none ∧ imSet x v l = l ++ [(x, v)] ∧ x ∉ l.map (·.1)) ∨ ((imSet x v l).map (·.1) = l.map (·.1) ∧ (imGet x l).isSome)
  | [] => .inl ⟨rfl, rfl, by simp⟩
  | p :: r => by
    by_cases hx : p.1 = x
    · right
      simp [imSet, imGet, hx]
    · rcases imSet_keys x v r with ⟨h1, h2, h3⟩ | ⟨h1, h2⟩
      · left
        refine ⟨by simp [imGet, hx, h1], by simp [imSet, hx, h2], by simpa using ⟨fun e => hx e.symm, by simpa using h3⟩⟩
      · right
        simp [imSet, imGet, hx, h1, h2]
theorem modify_kv (x : Int) (v : Value) : ∀ (l : List (Int × Value)) (es : List MapEntry) (i : Nat) (j : Nat) (u : Value), es.map kvE = l.map kvI → Instr.findNow (.int .i64) (.int .i64 x) es i = some (some (i + j, u)) →
    (es.modify j fun e => { e with key := .int .i64 x, val := v }).map kvE = (imSet x v l).map kvI ∧ (es.modify j fun e => { e with key := .int .i64 x, val := v }).map (·.born) = es.map (·.born)
  | [], [], i, j, u, _, h => by simp [Instr.findNow] at h
  | [], _ :: _, _, _, _, h, _ => by simp at h
  | _ :: _, [], _, _, _, h, _ => by simp at h
  | p :: r, e :: es, i, j, u, h, hf => by
    simp only [List.map_cons, List.cons.injEq] at h
    obtain ⟨h1, h2⟩ := h
    have hk : e.key = .int .i64 p.1 := congrArg Prod.fst h1
    by_cases hx : p.1 = x
    · have : j = 0 := by
        simp [Instr.findNow, Instr.sameNow, hk, hx] at hf
        omega
      subst this
      simp [imSet, hx, h2, kvE, kvI]
    · have hx' : (x == p.1) = false := by simpa using fun h => hx h.symm
      simp only [Instr.findNow, Instr.sameNow, hk, ↓reduceIte, hx'] at hf
      cases j with
      | zero =>
        exfalso
        rcases findNow_l x r es (i + 1) h2 with ⟨_, h3⟩ | ⟨j', v', e', _, h3, _, _⟩
        · rw [h3] at hf; simp at hf
        · rw [h3] at hf; simp at hf; omega
      | succ j =>
        have ih := modify_kv x v r es (i + 1) j u h2 (by rw [hf]; congr 2; simp; omega)
        constructor
        · simp [imSet, hx, h1, ih.1]
        · simp [ih.2]
theorem IMap.store (h : IMap w b l) (ht : P.underlying t = some (.map k e)) (hk : P.underlying k = some (.int .i64)) (x : Int) (v : Value) :
    ∃ o : Obj, (Instr.mapUpdate t (.map (some b)) (.int .i64 x) v).run P w = .ok () (w.putObj b o) ∧ IMap (w.putObj b o) b (imSet x v l) := by
  have hlt := h.lt
  obtain ⟨es, c, hb, hE⟩ := h
  have hkey : IsKey (.int .i64) (.int .i64 x) := rfl
  rcases findNow_l x l es.toList 0 hE.is with ⟨h1, h2⟩ | ⟨j, u, e', h1, h2, h3, h4⟩
  · refine ⟨.map (es.push { key := .int .i64 x, val := v, born := c }) (c + 1), ?_, _, _, World.putObj_heap_same hlt, ?_⟩
    · simp [Instr.mapUpdate, run_underlying ht, MapKept.run_getObj_map hb, run_checkKey hk hkey, run_findKey hk h2, MapKept.run_setObj_map _ hb, Result.andThen, World.putObj]
    · rcases imSet_keys x v l with ⟨_, a2, a3⟩ | ⟨_, a2⟩
      · rw [a2]
        refine ⟨by simp [hE.is, kvE, kvI], ?_, ?_, ?_⟩
        · rw [List.map_append]
          exact List.nodup_append.2 ⟨hE.keys, by simp, fun a ha b' hb' e => by simp at hb'; subst hb'; subst e; exact a3 ha⟩
        · intro e he
          simp at he
          rcases he with he | rfl
          · have := hE.born e (by simpa using he); omega
          · simp
        · simp only [Array.toList_push, List.map_append, List.map_cons, List.map_nil]
          refine List.nodup_append.2 ⟨hE.once, by simp, fun a ha b' hb' e => ?_⟩
          simp at hb'
          subst hb'
          subst e
          obtain ⟨m, hm, he⟩ := List.mem_map.1 ha
          have := hE.born m hm
          omega
      · rw [h1] at a2; simp at a2
  · have hj : es[j]? = some e' := by rw [← Array.getElem?_toList]; exact h3
    have hmod := modify_kv x v l es.toList 0 j u hE.is h2
    have hkk : IsKey (.int .i64) (.int .i64 x) := rfl
    refine ⟨.map (es.modify j fun e => { e with key := .int .i64 x, val := v }) c, ?_, _, _, World.putObj_heap_same hlt, ?_⟩
    · simp [Instr.mapUpdate, run_underlying ht, MapKept.run_getObj_map hb, run_checkKey hk hkey, run_findKey hk h2, hj, h4, run_keyThatStays hkk, MapKept.run_setObj_map _ hb, Result.andThen, World.putObj]
    · have hkeys : (imSet x v l).map (·.1) = l.map (·.1) := by
        rcases imSet_keys x v l with ⟨a1, _, _⟩ | ⟨a1, _⟩
        · rw [h1] at a1; simp at a1
        · exact a1
      refine ⟨by rw [Array.toList_modify]; exact hmod.1, by rw [hkeys]; exact hE.keys, ?_, by rw [Array.toList_modify, hmod.2]; exact hE.once⟩
      intro e he
      rw [Array.toList_modify] at he
      have hm : e.born ∈ (es.toList.modify j fun e => { e with key := .int .i64 x, val := v }).map (·.born) := List.mem_map_of_mem he
      rw [hmod.2] at hm
      obtain ⟨m, hm1, hm2⟩ := List.mem_map.1 hm
      rw [← hm2]
      exact hE.born m hm1
end
/-- an iterator over such a map into which nothing has been laid since: what is left of it -/
def IRange (w : World) (r b : Nat) (l rem : List (Int × Value)) : Prop :=
  ∃ es clock since c0 seen, w.heap[b]? = some (.map es clock) ∧ Ents es clock l ∧ w.heap[r]? = some (.mapIter (some b) since seen c0) ∧ (∀ e ∈ es.toList, e.born < since) ∧ since ≤ c0 ∧ since ≤ clock ∧ (leftOf es seen).toList.map kvE = rem.map kvI
theorem IRange.at_ {w w' : World} {r b : Nat} {l rem : List (Int × Value)} (h : IRange w r b l rem) (e1 : w'.heap[b]? = w.heap[b]?) (e2 : w'.heap[r]? = w.heap[r]?) : IRange w' r b l rem := by
  obtain ⟨es, c, s, c0, seen, h1, h2, h3, h4⟩ := h
  exact ⟨es, c, s, c0, seen, e1.trans h1, h2, e2.trans h3, h4⟩
theorem IRange.lt {w : World} {r b : Nat} {l rem : List (Int × Value)} (h : IRange w r b l rem) : r < w.heap.size ∧ b < w.heap.size ∧ r ≠ b := by
  obtain ⟨es, c, s, c0, seen, h1, h2, h3, h4⟩ := h
  exact ⟨(Array.getElem?_eq_some_iff.1 h3).1, (Array.getElem?_eq_some_iff.1 h1).1, fun e => by rw [e, h1] at h3; cases h3⟩
theorem IRange.imap {w : World} {r b : Nat} {l rem : List (Int × Value)} (h : IRange w r b l rem) : IMap w b l := by
  obtain ⟨es, c, s, c0, seen, h1, h2, h3, h4⟩ := h
  exact ⟨es, c, h1, h2⟩
theorem IMap.range {P : Program} {w : World} {t k e : TypeId} {b : Nat} {l : List (Int × Value)} (h : IMap w b l) (ht : P.underlying t = some (.map k e)) :
    ∃ o : Obj, (Instr.range t (.map (some b))).run P w = .ok (.pointer (some ⟨w.heap.size, 0, none⟩)) (w.alloc o) ∧ IRange (w.alloc o) w.heap.size b l l := by
  have hlt := h.lt
  obtain ⟨es, c, hb, hE⟩ := h
  refine ⟨_, run_range_map w t k e b es c ht hb, es, c, c, c, #[], (Below.heap_alloc w _ b hlt).trans hb, hE, heap_alloc_new w _, hE.born, Nat.le_refl _, Nat.le_refl _, ?_⟩
  have : leftOf es #[] = es := by unfold leftOf; exact Array.filter_eq_self.2 (fun x hx => by simp)
  rw [this]
  exact hE.is
theorem filter_push (seen : Array Nat) (e : MapEntry) : ∀ L : List MapEntry, e ∈ L → (L.map (·.born)).Nodup → ∃ A B, L = A ++ e :: B ∧ L.filter (fun x => !(seen.push e.born).contains x.born) = (A ++ B).filter (fun x => !seen.contains x.born)
  | [], h, _ => by simp at h
  | x :: L, h, hn => by
    simp only [List.map_cons, List.nodup_cons] at hn
    have hkeep : ∀ M : List MapEntry, (∀ y ∈ M, y.born ≠ e.born) → M.filter (fun x => !(seen.push e.born).contains x.born) = M.filter (fun x => !seen.contains x.born) := fun M hM => by
      apply List.filter_congr
      intro y hy
      simp [hM y hy]
    rcases List.mem_cons.1 h with rfl | h'
    · refine ⟨[], L, rfl, ?_⟩
      rw [List.filter_cons_of_neg (by simp)]
      exact hkeep L (fun y hy q => hn.1 (List.mem_map.2 ⟨y, hy, q⟩))
    · obtain ⟨A, B, rfl, hf⟩ := filter_push seen e L h' hn.2
      refine ⟨x :: A, B, rfl, ?_⟩
      have hxe : x.born ≠ e.born := fun q => hn.1 (q ▸ List.mem_map_of_mem (f := (·.born)) h')
      have hx := hkeep [x] (by simpa using hxe)
      rw [show x :: (A ++ e :: B) = [x] ++ (A ++ e :: B) from rfl, List.filter_append, hx, hf, ← List.filter_append]
      rfl
theorem IRange.next {P : Program} {w : World} {r b : Nat} {l rem : List (Int × Value)} (h : IRange w r b l rem) (ty : TypeId) :
    (rem = [] ∧ (Instr.next (.pointer (some ⟨r, 0, none⟩)) false ty).run P w = .ok (.tuple #[.bool false]) w) ∨
    ∃ A p B o w1, rem = A ++ p :: B ∧ (w1 = w ∨ w1 = w.drew) ∧ (Instr.next (.pointer (some ⟨r, 0, none⟩)) false ty).run P w = .ok (.tuple #[.bool true, .int .i64 p.1, p.2]) (w1.putObj r o) ∧ IRange (w1.putObj r o) r b l (A ++ B)
      ∧ (Instr.entry (.pointer (some ⟨r, 0, none⟩))).run P (w1.putObj r o) = .ok (.tuple #[.int .i64 p.1, p.2]) (w1.putObj r o) := by
  obtain ⟨hr, hbl, hrb⟩ := h.lt
  obtain ⟨es, c, since, c0, seen, hb, hE, hit, hold, hsc, hsk, hrem⟩ := h
  rcases run_next_at (P := P) w ty r b since c0 seen es c hit hb hold hsc with ⟨h0, hrun⟩ | ⟨e, he, w1, hw1, hrun⟩
  · left
    refine ⟨?_, hrun⟩
    have : leftOf es seen = #[] := Array.eq_empty_of_size_eq_zero h0
    rw [this] at hrem
    simpa using hrem.symm
  · right
    have hfl : (leftOf es seen).toList = es.toList.filter (fun e => !seen.contains e.born) := by unfold leftOf; rw [Array.toList_filter]
    have hmem : e ∈ es.toList := by rw [hfl] at he; exact (List.mem_filter.1 he).1
    obtain ⟨A0, B0, hAB, hf⟩ := filter_push seen e es.toList hmem hE.once
    have hseen : (!seen.contains e.born) = true := by rw [hfl] at he; exact (List.mem_filter.1 he).2
    have hsplit : (leftOf es seen).toList = A0.filter (fun e => !seen.contains e.born) ++ e :: B0.filter (fun e => !seen.contains e.born) := by
      rw [hfl, hAB, List.filter_append, List.filter_cons_of_pos (by simpa using hseen)]
    rw [hsplit, List.map_append, List.map_cons] at hrem
    obtain ⟨A, R, rfl, hA, hR⟩ := List.map_eq_append_iff.1 hrem.symm
    obtain ⟨p, B, rfl, hp, hB⟩ := List.map_eq_cons_iff.1 hR
    have hk : e.key = .int .i64 p.1 := (congrArg Prod.fst hp).symm
    have hv : e.val = p.2 := (congrArg Prod.snd hp).symm
    rw [hk, hv] at hrun
    have hb1 : w1.heap[b]? = some (.map es c) := by rcases hw1 with rfl | rfl <;> exact hb
    have hsz : r < w1.heap.size := by rcases hw1 with rfl | rfl <;> exact hr
    have hput : (w1.putObj r (.mapIter (some b) since (seen.push e.born) c)).heap[r]? = some (.mapIter (some b) since (seen.push e.born) c) := World.putObj_heap_same hsz
    have hbb : (w1.putObj r (.mapIter (some b) since (seen.push e.born) c)).heap[b]? = some (.map es c) := (World.putObj_heap_other (Ne.symm hrb)).trans hb1
    refine ⟨A, p, B, _, w1, rfl, hw1, hrun, ⟨es, c, since, c, seen.push e.born, hbb, hE, hput, hold, hsk, hsk, ?_⟩, ?_⟩
    · rw [show leftOf es (seen.push e.born) = es.filter fun x => !(seen.push e.born).contains x.born from rfl, Array.toList_filter, hf, List.filter_append, List.map_append, List.map_append, hA, hB]
    · have := run_entry_at (P := P) _ r b since seen es c e hput hbb hmem hE.once
      rw [hk, hv] at this
      exact this
/-- for a range over a function: a map that was made ahead of the loop -/
theorem ownFrom_imap {β : Type} {n : Nat} (M : Nat) (hM : M < n) (f : β → List (Int × Value)) : OwnFrom n (fun x W => IMap W M (f x)) := by
  intro s X Y row hs hg hr
  refine hs.at_ (hg.block M hs.lt (fun e => ?_))
  have := (hr M e.symm).1
  omega
end Go.Proofs.YtaijhbliagjeaaaDoor
namespace Go.Proofs.YtaijhbliagjeaaaDoor
open Go.RowKit Go.Proofs.YtaijhbliagjeaaaDoorW.PrintWords Go.Proofs.YtaijhbliagjeaaaDoorW.PrintMore
set_option linter.unusedVariables false
set_option linter.unusedSimpArgs false
/-- the seconds that have reached the level, one more -/
def hullAt (o : Option (Int × Int)) (k : Int) : Int × Int :=
  match o with
  | some a => hull a (k, k)
  | none => (k, k)
/-- the map of the lags, and whether one second surely reaches the level, after some seconds of a lag -/
def scanF (hi lo : Int → Int) (lv : Int) (x : Int) (m : List (Int × (Int × Int))) : Nat → List (Int × (Int × Int)) × Bool
  | 0 => (m, false)
  | k + 1 =>
    let r := scanF hi lo lv x m k
    if r.2 then r else if hi k < lv then r else (imSet x (hullAt (imGet x r.1) k) r.1, decide (lv ≤ lo k))
theorem scanF_stop {hi lo : Int → Int} {lv x : Int} {m : List (Int × (Int × Int))} {k : Nat} (h : (scanF hi lo lv x m k).2 = true) : ∀ d, scanF hi lo lv x m (k + d) = scanF hi lo lv x m k
  | 0 => rfl
  | d + 1 => by
    have ih := scanF_stop h d
    show scanF hi lo lv x m (k + d + 1) = _
    simp only [scanF, ih, h, ↓reduceIte]
theorem hull_assoc (a b c : Int × Int) : hull (hull a b) c = hull a (hull b c) := by
  unfold hull mn mx
  ext <;> simp only <;> (repeat' split) <;> omega
theorem hull_comm (a b : Int × Int) : hull a b = hull b a := by
  unfold hull mn mx
  ext <;> simp only <;> (repeat' split) <;> omega
theorem hull_self (a : Int × Int) : hull a a = a := by
  unfold hull mn mx
  ext <;> simp
/-- the span that has all that some have -/
def hullO (a : Int × Int) : Option (Int × Int) → Option (Int × Int)
  | none => some a
  | some b => some (hull a b)
def hullL (l : List (Int × Int)) : Option (Int × Int) := l.foldr hullO none
theorem hullO_left (a b : Int × Int) (o : Option (Int × Int)) : hullO a (hullO b o) = hullO b (hullO a o) := by
  cases o with
  | none => simp only [hullO]; rw [hull_comm]
  | some c => simp only [hullO]; rw [← hull_assoc, ← hull_assoc, hull_comm a b]
theorem hullO_twice (a : Int × Int) (o : Option (Int × Int)) : hullO a (hullO a o) = hullO a o := by
  cases o with
  | none => simp only [hullO]; rw [hull_self]
  | some c => simp only [hullO]; rw [← hull_assoc, hull_self]
theorem hullL_perm {l l' : List (Int × Int)} (h : l.Perm l') : hullL l = hullL l' := by
  induction h with
  | nil => rfl
  | cons x _ ih => simp only [hullL, List.foldr_cons] at ih ⊢; rw [ih]
  | swap x y l => simp only [hullL, List.foldr_cons]; exact hullO_left _ _ _
  | trans _ _ h1 h2 => exact h1.trans h2
theorem hullL_mem {p : Int × Int} : ∀ {l : List (Int × Int)}, p ∈ l → hullL (p :: l) = hullL l
  | [], h => by simp at h
  | x :: l, h => by
    rcases List.mem_cons.1 h with rfl | h
    · simp only [hullL, List.foldr_cons]; exact hullO_twice _ _
    · have ih := hullL_mem h
      simp only [hullL, List.foldr_cons] at ih ⊢
      rw [hullO_left, ih]
theorem hullL_cons (s : Int × Int) : ∀ r : List (Int × Int), hullL (s :: r) = some (r.foldl hull s)
  | [] => rfl
  | x :: r => by
    have h := hullL_cons (hull s x) r
    simp only [List.foldl_cons]
    rw [← h]
    simp only [hullL, List.foldr_cons]
    generalize List.foldr hullO none r = o
    cases o with
    | none => rfl
    | some c => simp only [hullO]; rw [hull_assoc]
/-- one more of those that are left, whichever comes -/
theorem hullL_take (all A B : List (Int × Int)) (p : Int × Int) : hullL (all ++ [p] ++ (A ++ B)) = hullL (all ++ (A ++ p :: B)) := by
  apply hullL_perm
  rw [List.append_assoc]
  refine List.Perm.append_left _ ?_
  simpa using (List.perm_middle (a := p) (l₁ := A) (l₂ := B)).symm
theorem hullL_skip {all A B : List (Int × Int)} {p : Int × Int} (h : p ∈ all) : hullL (all ++ (A ++ B)) = hullL (all ++ (A ++ p :: B)) := by
  rw [← hullL_take]
  have : (all ++ [p] ++ (A ++ B)).Perm (p :: (all ++ (A ++ B))) := by
    rw [List.append_assoc]
    exact List.perm_middle
  rw [hullL_perm this]
  exact (hullL_mem (by simp [h])).symm
end Go.Proofs.YtaijhbliagjeaaaDoor
namespace Go.Proofs.YtaijhbliagjeaaaDoor
set_option linter.unusedVariables false
set_option linter.unusedSimpArgs false
/-- the post, at the way on alone -/
def OnlyN (Q : Exit → Act → World → Prop) : Exit → Act → World → Prop
  | .normal, a, w => Q .normal a w
  | _, _, _ => False
theorem onlyN_lets {Q : Exit → Act → World → Prop} : ¬ LetsOut (OnlyN Q) := fun ⟨_, _, h⟩ => h
def wideR (ro : Option Nat) : Fence := { Fence.wide with round := ro }
theorem callsIn_wideR {ro : Option Nat} {n : Nat} {P : Program} {f : FuncId} {args : Array Value} {w : World} {R : Ending → World → Prop} (h : Calls P f args w R) : CallsIn (wideR ro) n P f args w R := callsIn_wide.2 h
theorem rowsIn_wideR {ro : Option Nat} {n : Nat} {P : Program} {row : String} {args : Array Value} {w : World} {R : Value → World → Prop} (h : Rows P row args w R) : RowsIn (wideR ro) n P row args w R :=
  fun c cs _ => let ⟨v, w', r, s⟩ := h c cs; ⟨v, w', r, stepsIn_wide.2 s⟩
theorem wpIn_of_wp {ro : Option Nat} {n : Nat} {P : Program} {o : Oper} {a : Act} {w : World} {K : Act → World → Prop} {Q : Exit → Act → World → Prop} (hd : ∀ c, o.op ≠ .defer c)
    (h : Oper.wp P o a w K (OnlyN Q)) : Oper.wpIn (wideR ro) n P o a w K Q := by
  refine ⟨fun _ _ => trivial, ?_⟩
  rw [show (wideR ro).round = ro from rfl, Oper.semAt_eq ro _ _ hd]
  unfold Oper.wp at h
  generalize (execOp a.eval o).run P w = r at h
  cases r with
  | ok x w' =>
    cases x with
    | value v => exact h
    | skip => exact h
    | defer d => exact h
    | enter f args =>
      refine ⟨fun hs => by simp [wideR, Fence.wide] at hs, callsIn_wideR (Calls.mono h ?_)⟩
      intro e w'' he
      cases e with
      | returned v => exact he
      | panicked c => exact he.elim
      | outgrown => exact (onlyN_lets he).elim
    | row row args => exact ⟨fun hs => by simp [wideR, Fence.wide] at hs, rowsIn_wideR h⟩
    | _ => exact h.elim
  | halt x w' =>
    cases x <;> first | exact h.elim | exact h
theorem wpOpIn_of {ro : Option Nat} {n : Nat} {P : Program} {ops : Array Oper} {Q : Exit → Act → World → Prop} {K K' : Act → World → Prop} (hd : ∀ (i : Nat) (o : Oper) c, ops[i]? = some o → o.op ≠ .defer c) (hK : ∀ a w, K a w → K' a w) (i : Nat) (a : Act) (w : World)
    (h : wpOp P ops (OnlyN Q) i K a w) : wpOpIn (wideR ro) n P ops Q i K' a w := by
  unfold wpOp at h
  unfold wpOpIn
  cases ho : ops[i]? with
  | none => rw [ho] at h; exact hK _ _ h
  | some o =>
    rw [ho] at h
    simp only at h ⊢
    split at h
    · rename_i hw
      rw [if_pos hw]
      rcases h with h | h
      · exact Oper.wpIn_mono hK (wpIn_of_wp (fun c => hd i o c ho) h)
      · exact (onlyN_lets h.2).elim
    · rename_i hw
      rw [if_neg hw]
      exact ⟨fun _ _ => trivial, hK _ _ h⟩
theorem wpAnyIn_of {ro : Option Nat} {n : Nat} {P : Program} {ops : Array Oper} {md : Region.Mode} {Q : Exit → Act → World → Prop} (hd : ∀ (i : Nat) (o : Oper) c, ops[i]? = some o → o.op ≠ .defer c) :
    ∀ (fuel : Nat) (listed : Array Bool) (a : Act) (w : World), wpAny P md ops (OnlyN Q) fuel listed a w → wpAnyIn (wideR ro) n P md ops Q fuel listed a w
  | 0, _, _, _, h => h
  | fuel + 1, _, _, _, h => ⟨h.1, fun i hi => wpOpIn_of hd (fun _ _ => wpAnyIn_of hd fuel _ _ _) i _ _ (h.2 i hi)⟩
def isDefer : Op → Bool
  | .defer _ => true
  | _ => false
/-- **the beginning** of such a region, in a round -/
theorem wpIn_region_held {l n : Nat} {P : Program} {id : Nat} {ops : Array Oper} {Q : Exit → Act → World → Prop} (S : World → Prop) {a : Act} {w : World} (hm : P.follows .mixedOrders = true) (hd : ops.all (fun o => !isDefer o.op) = true) (hS : S w.drew)
    (h : S w.drew → wpAnyH P .any ops (OnlyN Q) S ops.size (Array.replicate ops.size false) a w.drew) : (Code.region id ops true).wpIn (Fence.wide.inRound l) n P Q a w := by
  refine wpIn_region_any hm (wpAnyIn_of (ro := some l) ?_ _ _ _ _ (wpAny_of_held _ _ _ _ (h hS)))
  intro i o c ho e
  have hm := Array.all_eq_true'.1 hd o (Array.mem_of_getElem? ho)
  rw [e] at hm
  simp [isDefer] at hm
/-- the same, in the wide fence -/
theorem wpIn_region_held0 {n : Nat} {P : Program} {id : Nat} {ops : Array Oper} {Q : Exit → Act → World → Prop} (S : World → Prop) {a : Act} {w : World} (hm : P.follows .mixedOrders = true) (hd : ops.all (fun o => !isDefer o.op) = true) (hS : S w.drew)
    (h : S w.drew → wpAnyH P .any ops (OnlyN Q) S ops.size (Array.replicate ops.size false) a w.drew) : (Code.region id ops true).wpIn Fence.wide n P Q a w := by
  refine wpIn_region_any hm (wpAnyIn_of (ro := none) ?_ _ _ _ _ (wpAny_of_held _ _ _ _ (h hS)))
  intro i o c ho e
  have hm := Array.all_eq_true'.1 hd o (Array.mem_of_getElem? ho)
  rw [e] at hm
  simp [isDefer] at hm
section
variable {P : Program} {b : Frame} {a : Act} {k : List Item} {cs : List Frame} {w : World}
theorem stepR_scope {c : Code} : step P (lone (b.atR a (.code (.scope c) :: k)) cs w) = .next (lone (b.atR a (.code c :: .inScope c :: k)) cs w) :=
  step_lone_go (by simp [stepG, stepG.exec, Frame.atR])
theorem stepR_inScope {c : Code} : step P (lone (b.atR a (.inScope c :: k)) cs w) = .next (lone (b.atR a k) cs w) :=
  step_lone_go (by simp [stepG, stepG.exec, Frame.atR])
/-- a scope with labels that no goto comes to -/
theorem wpIn_scope_straight {F : Fence} {n : Nat} {c : Code} {Q : Exit → Act → World → Prop} (h : c.wpIn F n P (Exit.noGoto Q) a w) : (Code.scope c).wpIn F n P Q a w := by
  intro b k cs hro hb hr
  have h0 : (lone (b.atR a (.code (.scope c) :: k)) cs w).fenced P F := fenced_calm hb hr rfl
  obtain ⟨e, a₁, w₁, hq, harr⟩ := h b (.inScope c :: k) cs hro hb hr
  cases e with
  | normal => exact ⟨.normal, a₁, w₁, hq, .head h0 stepR_scope (StepsIn.trans harr (.one (fenced_calm hb hr rfl) stepR_inScope))⟩
  | exit id =>
    have hx : exitTo id (.inScope c :: k) = exitTo id k := by simp [exitTo]
    exact ⟨.exit id, a₁, w₁, hq, fun k' hk => .head h0 stepR_scope (harr.1 k' (by rw [hx]; exact hk)), fun hr' hk => let ⟨k₁, h1, h2⟩ := harr.2 hr' (by rw [hx]; exact hk); ⟨k₁, h1, .head h0 stepR_scope h2⟩⟩
  | goto l => exact hq.elim
  | ret => exact ⟨_, a₁, w₁, hq, .of_steps (.one h0 stepR_scope) harr⟩
  | panic ch => exact ⟨_, a₁, w₁, hq, .of_steps (.one h0 stepR_scope) harr⟩
  | outgrown => exact ⟨_, a₁, w₁, hq, .of_steps (.one h0 stepR_scope) harr⟩
end
section
variable {P : Program} {ops : Array Oper} {Q : Exit → Act → World → Prop} {S : World → Prop} {fuel : Nat} {listed : Array Bool} {a : Act} {w : World}
theorem take_v (i : Nat) (d : Option Tmp) (v : Value) {oi : Oper} (hi : ops[i]? = some oi) (hd : oi.dst = d) (hs : Region.noSelect ops = true) (hf : Region.free .any ops listed i = true) (hr : (Region.ready .any ops listed).contains i = true)
    (hw : Region.wanted oi (yielded ops a.tmps) = true) (hS : S w) (hy : ∀ w, S w → (execOp a.eval oi).run P w = .ok (.value v) w)
    (h : wpAnyH P .any ops (OnlyN Q) S fuel (listed.setIfInBounds i true) (a.put d v) w) : wpAnyH P .any ops (OnlyN Q) S (fuel + 1) listed a w := by
  subst hd
  exact wpAnyH_take hi hs hf hr (fun _ _ _ h => h) (Or.inl ⟨hw, hy⟩) hS h
theorem take_no (i : Nat) (d : Option Tmp) {oi : Oper} (hi : ops[i]? = some oi) (hd : oi.dst = d) (hs : Region.noSelect ops = true) (hf : Region.free .any ops listed i = true) (hr : (Region.ready .any ops listed).contains i = true)
    (hw : Region.wanted oi (yielded ops a.tmps) = false) (hS : S w)
    (h : wpAnyH P .any ops (OnlyN Q) S fuel (listed.setIfInBounds i true) (a.put d undef) w) : wpAnyH P .any ops (OnlyN Q) S (fuel + 1) listed a w := by
  subst hd
  exact wpAnyH_take hi hs hf hr (fun _ _ _ h => h) (Or.inr ⟨hw, rfl⟩) hS h
end
theorem wanted_is {o oj : Oper} {ops : Array Oper} {tmps : Array Value} {j d : Nat} {want b : Bool} (hg : o.guard = some (j, want)) (hj : ops[j]? = some oj) (hd : oj.dst = some d) (ht : tmps[d]? = some (.bool b)) : Region.wanted o (yielded ops tmps) = (b == want) := by
  simp only [Region.wanted, hg, yielded, hj, hd, ht, Option.bind_some]
  cases b <;> cases want <;> rfl
end Go.Proofs.YtaijhbliagjeaaaDoor
