/- burn: the heat of a second at a lag: both ends of its span, of a hood, readings, a drift in their limits; the table of the two ends lies as its initialiser lays it. -/
import Derived.Test.YtfgclmbndgakgaaDoorIn
import Derived.Test.YtfgclmbndgakgaaDoorWMore
import Derived.Deep.RegionHeld3
import Derived.Laws.Rows
import Derived.IntWalk
import Derived.Laws.EntriesVeiled
import Derived.Outline
import Derived.RangeFuncNested
import Derived.RangeFuncBound
import Derived.RangeFuncCalls
import Derived.RangeFuncLeaves
import Derived.Shelf.Abstract
import Derived.WalkKit
import Derived.OwnWalkIn
import Derived.TacticsInMore
import Derived.LoopNIn
import Derived.LoopIn
import Derived.RangeFuncWrites
import Derived.RangeFuncBox
import Derived.Maps.OwnIn
import Derived.Maps.AppendAt
import Derived.Deep.DeepMust
namespace Go.Proofs.YtfgclmbndgakgaaDoor
open Go.RowKit Go.Proofs.YtfgclmbndgakgaaDoorW.PrintWords Go.Proofs.YtfgclmbndgakgaaDoorW.PrintMore
attribute [local go_sem] max2_int min2_int max_two min_two max_three min_three max_four min_four
set_option linter.unusedVariables false
set_option linter.unusedSimpArgs false

theorem addr_add_add (a : Addr) (m n : Nat) : (a.add m).add n = a.add (m + n) := by
  unfold Addr.add
  by_cases h1 : m = 0 <;> by_cases h2 : n = 0 <;> simp [h1, h2]
  omega
theorem blk_new_at (w : World) (o : Obj) {k : Nat} (h : w.heap.size = k) : (w.alloc o).heap[k]? = some o := h ▸ blk_new w o
/-- The table burn.ends, as its initialiser lays it. -/
def tabC : Array Value := #[.func (.func 81) #[] #[], .func (.func 82) #[] #[], .func (.func 83) #[] #[], .func (.func 84) #[] #[]]
def GlobOK (w : World) : Prop := ∃ t fr, w.heap[0]? = some (.cells tabC t fr)
theorem GlobOK.below {w w1 : World} (h : GlobOK w) (hb : Below w.heap.size w w1) : GlobOK w1 := by
  obtain ⟨t, fr, h⟩ := h
  exact ⟨t, fr, blk_below h hb⟩

/-! ### the four functions of the table -/
theorem ends1_calls (a b : Int) (w : World) : Calls Tryd.prog 81 #[.agg #[.int .i64 a, .int .i64 b]] w fun e w' => e = .returned (.int .i64 a) ∧ Below w.heap.size w w' := by
  go_enter Tryd.func81, Tryd.ntmps81
  go_wp2
  go_ret
  exact ⟨rfl, below_alloc (Below.refl _ _) _⟩
theorem ends3_calls (a b : Int) (w : World) : Calls Tryd.prog 83 #[.agg #[.int .i64 a, .int .i64 b]] w fun e w' => e = .returned (.int .i64 b) ∧ Below w.heap.size w w' := by
  go_enter Tryd.func83, Tryd.ntmps83
  go_wp2
  go_ret
  exact ⟨rfl, below_alloc (Below.refl _ _) _⟩
theorem ends2_calls (a : Int) (w : World) : Calls Tryd.prog 82 #[.int .i64 a] w fun e w' => e = .returned (.int .i64 a) ∧ Below w.heap.size w w' := by
  go_enter Tryd.func82, Tryd.ntmps82
  go_wp2
  go_ret
  exact ⟨rfl, Below.refl _ _⟩
theorem ends4_calls (a : Int) (h0 : 0 ≤ a) (h1 : a ≤ 1000) (w : World) : Calls Tryd.prog 84 #[.int .i64 a] w fun e w' => e = .returned (.int .i64 (-a)) ∧ Below w.heap.size w w' := by
  go_enter Tryd.func84, Tryd.ntmps84
  go_wp2
  go_ret
  exact ⟨rfl, Below.refl _ _⟩

/-- which of the two ends: the functions, and what they tell -/
def ofF (k : Bool) : Nat := if k then 83 else 81
def offF (k : Bool) : Nat := if k then 84 else 82
def sel (k : Bool) (a b : Int) : Int := if k then b else a
def sgn (k : Bool) (a : Int) : Int := if k then -a else a
theorem of_calls (k : Bool) (a b : Int) (w : World) : Calls Tryd.prog (ofF k) #[.agg #[.int .i64 a, .int .i64 b]] w fun e w' => e = .returned (.int .i64 (sel k a b)) ∧ Below w.heap.size w w' := by
  cases k
  · exact ends1_calls a b w
  · exact ends3_calls a b w
theorem off_calls (k : Bool) (a : Int) (h0 : 0 ≤ a) (h1 : a ≤ 1000) (w : World) : Calls Tryd.prog (offF k) #[.int .i64 a] w fun e w' => e = .returned (.int .i64 (sgn k a)) ∧ Below w.heap.size w w' := by
  cases k
  · exact ends2_calls a w
  · exact ends4_calls a h0 h1 w
theorem of_enters (k : Bool) : ∀ args w, (callFunc (ofF k) args).run Tryd.prog w = .ok (.enter (ofF k) args) w := by
  cases k
  · exact enters_of Tryd.func81 (by kernel_rfl) rfl
  · exact enters_of Tryd.func83 (by kernel_rfl) rfl
theorem off_enters (k : Bool) : ∀ args w, (callFunc (offF k) args).run Tryd.prog w = .ok (.enter (offF k) args) w := by
  cases k
  · exact enters_of Tryd.func82 (by kernel_rfl) rfl
  · exact enters_of Tryd.func84 (by kernel_rfl) rfl

/-- what is missing at an end -/
def missF (k : Bool) (b0 b1 y dr : Int) : Int := mx 0 (sel k b0 b1 - y - sgn k dr)

set_option maxHeartbeats 2000000 in
theorem heat1_calls (k : Bool) (B0 B1 B2 B3 : Nat) (b0 b1 dr i j y : Int) (ad : Addr) (n c : Nat) (w : World)
    (h0 : w.cell? ⟨B0, 0, none⟩ = some (.func (.func (ofF k)) #[] #[])) (h1 : w.cell? ⟨B0, 1, none⟩ = some (.func (.func (offF k)) #[] #[]))
    (h2 : w.cell? ⟨B1, 0, none⟩ = some (.int .i64 b0)) (h3 : w.cell? ⟨B1, 1, none⟩ = some (.int .i64 b1)) (h4 : w.cell? ⟨B1, 8, none⟩ = some (.int .i64 dr)) (h5 : w.cell? ⟨B1, 9, none⟩ = some (.slice (some ad) n c))
    (h6 : w.cell? ⟨B2, 0, none⟩ = some (.int .i64 i)) (h7 : w.cell? ⟨B3, 0, none⟩ = some (.int .i64 j)) (h8 : w.cell? (ad.add (i + j).toNat) = some (.int .i64 y))
    (i0 : 0 ≤ i) (i1 : i ≤ 1000000) (j0 : 0 ≤ j) (j1 : j ≤ 1000) (ij : i + j < n) (q0 : 0 ≤ b0) (q1 : b0 ≤ 1000000) (q2 : 0 ≤ b1) (q3 : b1 ≤ 1000000) (d0 : 0 ≤ dr) (d1 : dr ≤ 1000) (y0 : 0 ≤ y) (y1 : y ≤ 1000000) :
    Calls Tryd.prog 61 #[.pointer (some ⟨B0, 0, none⟩), .pointer (some ⟨B1, 0, none⟩), .pointer (some ⟨B2, 0, none⟩), .pointer (some ⟨B3, 0, none⟩)] w fun e w' => e = .returned (.int .i64 (missF k b0 b1 y dr)) ∧ Below w.heap.size w w' := by
  have e1 := of_enters k
  have e2 := off_enters k
  have l0 := World.block_lt_of_cell? w _ h0
  have l1 := World.block_lt_of_cell? w _ h2
  have l2 := World.block_lt_of_cell? w _ h6
  have l3 := World.block_lt_of_cell? w _ h7
  have l4 := World.block_lt_of_cell? w _ h8
  simp only at l0 l1 l2 l3
  have s0 : 0 ≤ sel k b0 b1 ∧ sel k b0 b1 ≤ 1000000 := by cases k <;> simp [sel] <;> omega
  have g0 : -1000 ≤ sgn k dr ∧ sgn k dr ≤ 1000 := by cases k <;> simp [sgn] <;> omega
  have ij0 : 0 ≤ i + j := by omega
  have wr1 : IntKind.i64.wrap (i + j) = i + j := IntWalk.i64_in _ (by omega)
  have wr2 : IntKind.i64.wrap (sel k b0 b1 - y) = sel k b0 b1 - y := IntWalk.i64_in _ (by omega)
  have wr3 : IntKind.i64.wrap (sel k b0 b1 - y - sgn k dr) = sel k b0 b1 - y - sgn k dr := IntWalk.i64_in _ (by omega)
  go_enter Tryd.func61, Tryd.ntmps61
  go_wp2_with fail
  go_region_held3 (fun w' => w'.cell? ⟨B0, 0, none⟩ = some (.func (.func (ofF k)) #[] #[]) ∧ w'.cell? ⟨B0, 1, none⟩ = some (.func (.func (offF k)) #[] #[])
      ∧ w'.cell? ⟨B1, 0, none⟩ = some (.int .i64 b0) ∧ w'.cell? ⟨B1, 1, none⟩ = some (.int .i64 b1) ∧ w'.cell? ⟨B1, 8, none⟩ = some (.int .i64 dr) ∧ w'.cell? ⟨B1, 9, none⟩ = some (.slice (some ad) n c)
      ∧ w'.cell? ⟨B2, 0, none⟩ = some (.int .i64 i) ∧ w'.cell? ⟨B3, 0, none⟩ = some (.int .i64 j) ∧ w'.cell? (ad.add (i + j).toNat) = some (.int .i64 y))
    (first
      | go_keep
      | (go_split_ands; refine ⟨?_, ?_, ?_, ?_, ?_, ?_, ?_, ?_, ?_⟩ <;> (first | exact pw_cell_below hb2 (by assumption) | exact pw_cell_below hb1 (by assumption))))
    ((first
      | (go_at_fn (ofF k); (with_reducible refine (of_calls k _ _ _).mono ?_); rintro e w1 ⟨rfl, hb1⟩)
      | (go_at_fn (offF k); (with_reducible refine (off_calls k _ d0 d1 _).mono ?_); rintro e w2 ⟨rfl, hb2⟩)))
  have hB := below_step (below_step (below_drew (Below.refl w.heap.size w)) hb1) hb2
  clear hb1 hb2
  have HB := Aside0.mk hB
  clear hB
  by_cases hm : sgn k dr < sel k b0 b1 - y
  · go_wp2
    go_ret
    exact ⟨by simp only [Array.getD]; unfold missF mx; rw [if_pos (by omega)]; rfl, HB.out⟩
  · go_wp2
    go_ret
    exact ⟨by simp only [Array.getD]; unfold missF mx; rw [if_neg (by omega)]; rfl, HB.out⟩

end Go.Proofs.YtfgclmbndgakgaaDoor
/- burn: the heat of a second at a lag: both ends of its span, of a hood, readings, a drift in their limits; the table of the two ends lies as its initialiser lays it. -/
namespace Go.Proofs.YtfgclmbndgakgaaDoor
open Go.RowKit Go.Proofs.YtfgclmbndgakgaaDoorW.PrintWords Go.Proofs.YtfgclmbndgakgaaDoorW.PrintMore
attribute [local go_sem] max2_int min2_int max_two min_two max_three min_three max_four min_four
set_option linter.unusedVariables false
set_option linter.unusedSimpArgs false

theorem frz_below {w w1 : World} (hb : Below w.heap.size w w1) {a : Addr} {v : Value} (hc : w.cell? a = some v) (h : w.frozen? a = false) : w1.frozen? a = false := (hb.frozen (World.block_lt_of_cell? w a hc)).trans h
/-- the heat of a second at a lag, at an end -/
def heatF (k : Bool) (b0 b1 f0 f1 j0 j1 dr y : Int) : Int := sel k j0 j1 * sel k f0 f1 * missF k b0 b1 y dr
/-- a hood in its limits -/
def HoodOK (b0 b1 f0 f1 j0 j1 g0 g1 dr : Int) : Prop := (0 ≤ b0 ∧ b0 ≤ b1 ∧ b1 ≤ 1000000) ∧ (0 ≤ f0 ∧ f0 ≤ f1 ∧ f1 ≤ 10000) ∧ (0 ≤ j0 ∧ j0 ≤ j1 ∧ j1 ≤ 30000) ∧ (0 ≤ g0 ∧ g0 ≤ g1 ∧ g1 ≤ 30) ∧ (0 ≤ dr ∧ dr ≤ 1000)

set_option maxRecDepth 100000 in
set_option maxHeartbeats 4000000 in
theorem heat_calls (b0 b1 f0 f1 j0 j1 g0 g1 dr : Int) (hH : HoodOK b0 b1 f0 f1 j0 j1 g0 g1 dr) (A : Option Addr) (c : Nat) (l : List Int) (sc i j : Int) (w : World) (hr : Kd.C (Kd.int .i64) w A l.length l)
    (i0 : 0 ≤ i) (i1 : i ≤ 1000000) (jj0 : 0 ≤ j) (jj1 : j ≤ 1000) (ij : i + j < l.length) (y0 : 0 ≤ rd l (i + j)) (y1 : rd l (i + j) ≤ 1000000) (hG : GlobOK w) :
    Calls Tryd.prog 46 #[.agg #[.int .i64 b0, .int .i64 b1, .int .i64 f0, .int .i64 f1, .int .i64 j0, .int .i64 j1, .int .i64 g0, .int .i64 g1, .int .i64 dr, .slice A l.length c, .int .i64 sc], .int .i64 i, .int .i64 j] w
      fun e w' => e = .returned (.agg #[.int .i64 (heatF false b0 b1 f0 f1 j0 j1 dr (rd l (i + j))), .int .i64 (heatF true b0 b1 f0 f1 j0 j1 dr (rd l (i + j)))]) ∧ Below w.heap.size w w' := by
  obtain ⟨tg, fr, hg⟩ := hG
  obtain ⟨ad, rfl, hel⟩ := Kd.at_int hr (i + j) (by omega) (by omega)
  have HEL := Aside0.mk hel
  have HGL := Aside0.mk hg
  have HH := Aside0.mk hH
  clear hr hel hg hH
  generalize rd l (i + j) = y at *
  generalize l.length = n at *
  go_enter Tryd.func46, Tryd.ntmps46
  go_wp2_with ((with_reducible refine gate_ (.load 97 (.global 0)) rfl ?_); refine wpList_load_row rfl 97 (.global 0) rfl 0 rfl tg tabC fr _ (blk_alloc (blk_alloc (blk_alloc (blk_alloc (blk_alloc HGL.out _) _) _) _) _) Tryd.underlying97 rfl (by kernel_rfl) ?_)
  obtain ⟨W, hW⟩ : ∃ W, ((((w.alloc (.cells #[.int .i64 b0, .int .i64 b1, .int .i64 f0, .int .i64 f1, .int .i64 j0, .int .i64 j1, .int .i64 g0, .int .i64 g1, .int .i64 dr, .slice (some ad) n c, .int .i64 sc] 69)).alloc (.cells #[.int .i64 i] 3)).alloc (.cells #[.int .i64 j] 3)).alloc (.cells #[.int .i64 0, .int .i64 0] 23)).alloc (.cells #[.int .i64 0, .int .i64 0] 93) = W := ⟨_, rfl⟩
  rw [hW]
  have hbW : Below w.heap.size w W := hW ▸ below_alloc (below_alloc (below_alloc (below_alloc (below_alloc (Below.refl _ w) _) _) _) _) _
  obtain ⟨x3, x4, x5, x6, x7⟩ : W.heap[w.heap.size]? = some (.cells #[.int .i64 b0, .int .i64 b1, .int .i64 f0, .int .i64 f1, .int .i64 j0, .int .i64 j1, .int .i64 g0, .int .i64 g1, .int .i64 dr, .slice (some ad) n c, .int .i64 sc] 69)
      ∧ W.heap[w.heap.size + 1]? = some (.cells #[.int .i64 i] 3) ∧ W.heap[w.heap.size + 1 + 1]? = some (.cells #[.int .i64 j] 3) ∧ W.heap[w.heap.size + 1 + 1 + 1]? = some (.cells #[.int .i64 0, .int .i64 0] 23) ∧ W.heap[w.heap.size + 1 + 1 + 1 + 1]? = some (.cells #[.int .i64 0, .int .i64 0] 93) := by
    rw [← hW]
    exact ⟨blk_alloc (blk_alloc (blk_alloc (blk_alloc (blk_new _ _) _) _) _) _, blk_alloc (blk_alloc (blk_alloc (blk_new_at _ _ (by simp)) _) _) _, blk_alloc (blk_alloc (blk_new_at _ _ (by simp)) _) _, blk_alloc (blk_new_at _ _ (by simp)) _, blk_new_at _ _ (by simp)⟩
  clear hW
  have hle : w.heap.size ≤ w.heap.size + 1 + 1 + 1 + 1 := by omega
  have hle6 : w.heap.size ≤ w.heap.size + 1 + 1 + 1 := by omega
  have n73 : w.heap.size + 1 + 1 + 1 + 1 ≠ w.heap.size := by omega
  have n74 : w.heap.size + 1 + 1 + 1 + 1 ≠ w.heap.size + 1 := by omega
  have n75 : w.heap.size + 1 + 1 + 1 + 1 ≠ w.heap.size + 1 + 1 := by omega
  have n76 : w.heap.size + 1 + 1 + 1 + 1 ≠ w.heap.size + 1 + 1 + 1 := by omega
  have lad := World.block_lt_of_cell? w _ HEL.out
  generalize w.heap.size + 1 + 1 + 1 + 1 = G7 at *
  generalize w.heap.size + 1 + 1 + 1 = G6 at *
  generalize w.heap.size + 1 + 1 = G5 at *
  generalize w.heap.size + 1 = G4 at *
  have hle3 : w.heap.size ≤ w.heap.size := Nat.le_refl _
  obtain ⟨G3, hG3⟩ : ∃ G, G = w.heap.size := ⟨_, rfl⟩
  rw [← hG3] at x3 n73 ⊢
  have HG3 := Aside0.mk hG3
  clear hG3
  have n7a : G7 ≠ (ad.add (i + j).toNat).block := by omega
  have X3 := Aside0.mk x3
  have X4 := Aside0.mk x4
  have X5 := Aside0.mk x5
  have X6 := Aside0.mk x6
  have X7 := Aside0.mk x7
  have HB := Aside0.mk hbW
  clear x3 x4 x5 x6 x7 hbW lad
  go_loopg [12] 2 (fun gg s12 wr => ∃ (kk : Int) (p q : Int), 0 ≤ kk ∧ kk ≤ 2 ∧ 2 - kk ≤ gg ∧ s12 = .int .i64 kk ∧ Aside0 (Below w.heap.size w wr)
      ∧ Aside0 (wr.heap[G3]? = some (.cells #[.int .i64 b0, .int .i64 b1, .int .i64 f0, .int .i64 f1, .int .i64 j0, .int .i64 j1, .int .i64 g0, .int .i64 g1, .int .i64 dr, .slice (some ad) n c, .int .i64 sc] 69))
      ∧ Aside0 (wr.heap[G4]? = some (.cells #[.int .i64 i] 3)) ∧ Aside0 (wr.heap[G5]? = some (.cells #[.int .i64 j] 3)) ∧ Aside0 (wr.heap[G6]? = some (.cells #[.int .i64 0, .int .i64 0] 23)) ∧ Aside0 (wr.heap[G7]? = some (.cells #[.int .i64 p, .int .i64 q] 93))
      ∧ Aside0 ((1 ≤ kk → p = heatF false b0 b1 f0 f1 j0 j1 dr y) ∧ (2 ≤ kk → q = heatF true b0 b1 f0 f1 j0 j1 dr y)))
  case atStart => exact ⟨0, 0, 0, by omega, by omega, by omega, rfl, HB, X3, X4, X5, X6, X7, ⟨fun h => by omega, fun h => by omega⟩⟩
  case round =>
    clear HB X3 X4 X5 X6 X7
    obtain ⟨kk, p, q, hkk0, hkk, hg, rfl, HB, X3, X4, X5, X6, X7, HPQ⟩ := hrel
    obtain rfl | rfl | rfl : kk = 0 ∨ kk = 1 ∨ kk = 2 := by omega
    · have hix : ∀ W', (Instr.index 97 (.agg tabC) (.int .i64 0)).run Tryd.prog W' = .ok (.agg #[.func (.func (ofF false)) #[] #[], .func (.func (offF false)) #[] #[]]) W' := fun _ => by kernel_rfl
      have hu96 := Tryd.underlying96
      go_wp2_with fail
      obtain ⟨w2, hw2⟩ : ∃ w2, wr.alloc (.cells #[.func (.func (ofF false)) #[] #[], .func (.func (offF false)) #[] #[]] 96) = w2 := ⟨_, rfl⟩
      rw [hw2]
      have hB2 : Below w.heap.size w w2 := hw2 ▸ below_alloc HB.out _
      have y3 := hw2 ▸ blk_alloc X3.out (.cells #[.func (.func (ofF false)) #[] #[], .func (.func (offF false)) #[] #[]] 96)
      have y4 := hw2 ▸ blk_alloc X4.out (.cells #[.func (.func (ofF false)) #[] #[], .func (.func (offF false)) #[] #[]] 96)
      have y5 := hw2 ▸ blk_alloc X5.out (.cells #[.func (.func (ofF false)) #[] #[], .func (.func (offF false)) #[] #[]] 96)
      have y6 := hw2 ▸ blk_alloc X6.out (.cells #[.func (.func (ofF false)) #[] #[], .func (.func (offF false)) #[] #[]] 96)
      have y7 := hw2 ▸ blk_alloc X7.out (.cells #[.func (.func (ofF false)) #[] #[], .func (.func (offF false)) #[] #[]] 96)
      have y9 : w2.heap[wr.heap.size]? = some (.cells #[.func (.func (ofF false)) #[] #[], .func (.func (offF false)) #[] #[]] 96) := hw2 ▸ blk_new wr _
      have n79 : G7 ≠ wr.heap.size := by have := blk_lt X7.out; omega
      have lg := blk_lt X7.out
      clear hw2
      generalize wr.heap.size = G9 at *
      have a0 : w2.cell? ⟨G9, 0, none⟩ = some (.func (.func (ofF false)) #[] #[]) := (blk_cell y9 0).trans rfl
      have a1 : w2.cell? ⟨G9, 1, none⟩ = some (.func (.func (offF false)) #[] #[]) := (blk_cell y9 1).trans rfl
      have a2 : w2.cell? ⟨G3, 0, none⟩ = some (.int .i64 b0) := (blk_cell y3 0).trans rfl
      have a3 : w2.cell? ⟨G3, 1, none⟩ = some (.int .i64 b1) := (blk_cell y3 1).trans rfl
      have a4 : w2.cell? ⟨G3, 2, none⟩ = some (.int .i64 f0) := (blk_cell y3 2).trans rfl
      have a5 : w2.cell? ⟨G3, 3, none⟩ = some (.int .i64 f1) := (blk_cell y3 3).trans rfl
      have a6 : w2.cell? ⟨G3, 4, none⟩ = some (.int .i64 j0) := (blk_cell y3 4).trans rfl
      have a7 : w2.cell? ⟨G3, 5, none⟩ = some (.int .i64 j1) := (blk_cell y3 5).trans rfl
      have a8 : w2.cell? ⟨G3, 8, none⟩ = some (.int .i64 dr) := (blk_cell y3 8).trans rfl
      have a9 : w2.cell? ⟨G3, 9, none⟩ = some (.slice (some ad) n c) := (blk_cell y3 9).trans rfl
      have a10 : w2.cell? ⟨G4, 0, none⟩ = some (.int .i64 i) := (blk_cell y4 0).trans rfl
      have a11 : w2.cell? ⟨G5, 0, none⟩ = some (.int .i64 j) := (blk_cell y5 0).trans rfl
      have a12 : w2.cell? (ad.add (i + j).toNat) = some (.int .i64 y) := pw_cell_below hB2 HEL.out
      have a13 : w2.cell? ⟨G7, 0, none⟩ = some (.int .i64 p) := (blk_cell y7 0).trans rfl
      have a14 : w2.cell? ⟨G7, 1, none⟩ = some (.int .i64 q) := (blk_cell y7 1).trans rfl
      have a15 := blk_frozen y7 0
      have a16 := blk_frozen y7 1
      have Y3 := Aside0.mk y3
      have Y4 := Aside0.mk y4
      have Y5 := Aside0.mk y5
      have Y6 := Aside0.mk y6
      have Y7 := Aside0.mk y7
      have HB2 := Aside0.mk hB2
      clear y3 y4 y5 y6 y7 y9 hB2 lg
      clear HB X3 X4 X5 X6 X7
      have e1 := of_enters false
      have e2 : ∀ args w, (callFunc 61 args).run Tryd.prog w = .ok (.enter 61 args) w := enters_of Tryd.func61 (by kernel_rfl) rfl
      have hh := HH.out
      unfold HoodOK at hh
      have s1 : 0 ≤ sel false j0 j1 ∧ sel false j0 j1 ≤ 30000 := by simp [sel] <;> omega
      have s2 : 0 ≤ sel false f0 f1 ∧ sel false f0 f1 ≤ 10000 := by simp [sel] <;> omega
      have s3 : 0 ≤ missF false b0 b1 y dr ∧ missF false b0 b1 y dr ≤ 1001000 := by
        unfold missF mx sel sgn
        simp
        split <;> omega
      have m1 : 0 ≤ sel false j0 j1 * sel false f0 f1 ∧ sel false j0 j1 * sel false f0 f1 ≤ 300000000 := ⟨Int.mul_nonneg s1.1 s2.1, by have := Int.mul_le_mul s1.2 s2.2 s2.1 (by omega); omega⟩
      have m2 : 0 ≤ sel false j0 j1 * sel false f0 f1 * missF false b0 b1 y dr ∧ sel false j0 j1 * sel false f0 f1 * missF false b0 b1 y dr ≤ 300300000000000 := ⟨Int.mul_nonneg m1.1 s3.1, by have := Int.mul_le_mul m1.2 s3.2 s3.1 (by omega); omega⟩
      have wr1 : IntKind.i64.wrap (sel false j0 j1 * sel false f0 f1) = sel false j0 j1 * sel false f0 f1 := IntWalk.i64_in _ (by omega)
      have wr2 : IntKind.i64.wrap (sel false j0 j1 * sel false f0 f1 * missF false b0 b1 y dr) = sel false j0 j1 * sel false f0 f1 * missF false b0 b1 y dr := IntWalk.i64_in _ (by omega)
      obtain ⟨⟨q0, q1, q2⟩, _, _, _, q3, q4⟩ := hh
      have q5 : 0 ≤ b1 := by omega
      have q6 : b0 ≤ 1000000 := by omega
      clear s1 s2 s3 m1 m2 q1
      go_region_held3 (fun w' => w'.cell? ⟨G9, 0, none⟩ = some (.func (.func (ofF false)) #[] #[]) ∧ w'.cell? ⟨G9, 1, none⟩ = some (.func (.func (offF false)) #[] #[])
          ∧ w'.cell? ⟨G3, 0, none⟩ = some (.int .i64 b0) ∧ w'.cell? ⟨G3, 1, none⟩ = some (.int .i64 b1) ∧ w'.cell? ⟨G3, 2, none⟩ = some (.int .i64 f0) ∧ w'.cell? ⟨G3, 3, none⟩ = some (.int .i64 f1) ∧ w'.cell? ⟨G3, 4, none⟩ = some (.int .i64 j0) ∧ w'.cell? ⟨G3, 5, none⟩ = some (.int .i64 j1)
          ∧ w'.cell? ⟨G3, 8, none⟩ = some (.int .i64 dr) ∧ w'.cell? ⟨G3, 9, none⟩ = some (.slice (some ad) n c)
          ∧ w'.cell? ⟨G4, 0, none⟩ = some (.int .i64 i) ∧ w'.cell? ⟨G5, 0, none⟩ = some (.int .i64 j) ∧ w'.cell? (ad.add (i + j).toNat) = some (.int .i64 y))
        (first
          | go_keep
          | exact ⟨pw_cell_below HC.out a0, pw_cell_below HC.out a1, pw_cell_below HC.out a2, pw_cell_below HC.out a3, pw_cell_below HC.out a4, pw_cell_below HC.out a5, pw_cell_below HC.out a6, pw_cell_below HC.out a7, pw_cell_below HC.out a8, pw_cell_below HC.out a9, pw_cell_below HC.out a10, pw_cell_below HC.out a11, pw_cell_below HC.out a12⟩)
        ((first
          | (go_at_fn (ofF false); (with_reducible refine (of_calls false _ _ _).mono ?_); rintro e w3 ⟨rfl, hb1⟩; have HD : Aside0 (Below w2.heap.size w2 w3) := ⟨by first | exact below_step HC.out hb1 | exact below_step (below_drew (Below.refl _ _)) hb1⟩; (try clear HC); have HC := HD; clear HD hb1)
          | (go_at_fn 61; (with_reducible refine (heat1_calls false G9 G3 G4 G5 b0 b1 dr i j y ad n c _ ?_ ?_ ?_ ?_ ?_ ?_ ?_ ?_ ?_ i0 i1 jj0 jj1 ij q0 q6 q5 q2 q3 q4 y0 y1).mono ?_); (simp [*]); (simp [*]); (simp [*]); (simp [*]); (simp [*]); (simp [*]); (simp [*]); (simp [*]); (simp [*]); rintro e w4 ⟨rfl, hb1⟩; have HD : Aside0 (Below w2.heap.size w2 w4) := ⟨below_step HC.out hb1⟩; clear HC; have HC := HD; clear HD hb1; have z0 := pw_cell_below HC.out a13; have z1 := pw_cell_below HC.out a14; have z2 := frz_below HC.out a13 a15; have z3 := frz_below HC.out a14 a16)))
      have x3 := blk_far (blk_below Y3.out HC.out) (Ne.symm n73) (u := .int .i64 (heatF false b0 b1 f0 f1 j0 j1 dr y)) (p := ⟨G7, 0, none⟩)
      have x4 := blk_far (blk_below Y4.out HC.out) (Ne.symm n74) (u := .int .i64 (heatF false b0 b1 f0 f1 j0 j1 dr y)) (p := ⟨G7, 0, none⟩)
      have x5 := blk_far (blk_below Y5.out HC.out) (Ne.symm n75) (u := .int .i64 (heatF false b0 b1 f0 f1 j0 j1 dr y)) (p := ⟨G7, 0, none⟩)
      have x6 := blk_far (blk_below Y6.out HC.out) (Ne.symm n76) (u := .int .i64 (heatF false b0 b1 f0 f1 j0 j1 dr y)) (p := ⟨G7, 0, none⟩)
      have x7 := blk_put (cs' := #[.int .i64 (heatF false b0 b1 f0 f1 j0 j1 dr y), .int .i64 q]) (blk_below Y7.out HC.out) 0 (.int .i64 (heatF false b0 b1 f0 f1 j0 j1 dr y)) rfl
      have hB5 : Below w.heap.size w (w4.setCell ⟨G7, 0, none⟩ (.int .i64 (heatF false b0 b1 f0 f1 j0 j1 dr y))) := below_set (below_step HB2.out HC.out) hle
      change (Exit.inBlock 1 _) Exit.normal _ (w4.setCell ⟨G7, 0, none⟩ (.int .i64 (heatF false b0 b1 f0 f1 j0 j1 dr y)))
      clear z0 z1 z2 z3
      generalize w4.setCell ⟨G7, 0, none⟩ (.int .i64 (heatF false b0 b1 f0 f1 j0 j1 dr y)) = w5 at *
      have Z3 := Aside0.mk x3
      have Z4 := Aside0.mk x4
      have Z5 := Aside0.mk x5
      have Z6 := Aside0.mk x6
      have Z7 := Aside0.mk x7
      have HB5 := Aside0.mk hB5
      clear x3 x4 x5 x6 x7 hB5 a0 a1 a2 a3 a4 a5 a6 a7 a8 a9 a10 a11 a12 a13 a14 a15 a16 HC HB2 Y3 Y4 Y5 Y6 Y7 e1 e2 wr1 wr2 hix hu96
      go_wp2
      go_roundg 1
      case measure => omega
      case rel => exact ⟨1, heatF false b0 b1 f0 f1 j0 j1 dr y, q, by omega, by omega, by omega, rfl, HB5, Z3, Z4, Z5, Z6, Z7, ⟨fun _ => rfl, fun h => by omega⟩⟩
    · have hix : ∀ W', (Instr.index 97 (.agg tabC) (.int .i64 1)).run Tryd.prog W' = .ok (.agg #[.func (.func (ofF true)) #[] #[], .func (.func (offF true)) #[] #[]]) W' := fun _ => by kernel_rfl
      have hu96 := Tryd.underlying96
      go_wp2_with fail
      obtain ⟨w2, hw2⟩ : ∃ w2, wr.alloc (.cells #[.func (.func (ofF true)) #[] #[], .func (.func (offF true)) #[] #[]] 96) = w2 := ⟨_, rfl⟩
      rw [hw2]
      have hB2 : Below w.heap.size w w2 := hw2 ▸ below_alloc HB.out _
      have y3 := hw2 ▸ blk_alloc X3.out (.cells #[.func (.func (ofF true)) #[] #[], .func (.func (offF true)) #[] #[]] 96)
      have y4 := hw2 ▸ blk_alloc X4.out (.cells #[.func (.func (ofF true)) #[] #[], .func (.func (offF true)) #[] #[]] 96)
      have y5 := hw2 ▸ blk_alloc X5.out (.cells #[.func (.func (ofF true)) #[] #[], .func (.func (offF true)) #[] #[]] 96)
      have y6 := hw2 ▸ blk_alloc X6.out (.cells #[.func (.func (ofF true)) #[] #[], .func (.func (offF true)) #[] #[]] 96)
      have y7 := hw2 ▸ blk_alloc X7.out (.cells #[.func (.func (ofF true)) #[] #[], .func (.func (offF true)) #[] #[]] 96)
      have y9 : w2.heap[wr.heap.size]? = some (.cells #[.func (.func (ofF true)) #[] #[], .func (.func (offF true)) #[] #[]] 96) := hw2 ▸ blk_new wr _
      have n79 : G7 ≠ wr.heap.size := by have := blk_lt X7.out; omega
      have lg := blk_lt X7.out
      clear hw2
      generalize wr.heap.size = G9 at *
      have a0 : w2.cell? ⟨G9, 0, none⟩ = some (.func (.func (ofF true)) #[] #[]) := (blk_cell y9 0).trans rfl
      have a1 : w2.cell? ⟨G9, 1, none⟩ = some (.func (.func (offF true)) #[] #[]) := (blk_cell y9 1).trans rfl
      have a2 : w2.cell? ⟨G3, 0, none⟩ = some (.int .i64 b0) := (blk_cell y3 0).trans rfl
      have a3 : w2.cell? ⟨G3, 1, none⟩ = some (.int .i64 b1) := (blk_cell y3 1).trans rfl
      have a4 : w2.cell? ⟨G3, 2, none⟩ = some (.int .i64 f0) := (blk_cell y3 2).trans rfl
      have a5 : w2.cell? ⟨G3, 3, none⟩ = some (.int .i64 f1) := (blk_cell y3 3).trans rfl
      have a6 : w2.cell? ⟨G3, 4, none⟩ = some (.int .i64 j0) := (blk_cell y3 4).trans rfl
      have a7 : w2.cell? ⟨G3, 5, none⟩ = some (.int .i64 j1) := (blk_cell y3 5).trans rfl
      have a8 : w2.cell? ⟨G3, 8, none⟩ = some (.int .i64 dr) := (blk_cell y3 8).trans rfl
      have a9 : w2.cell? ⟨G3, 9, none⟩ = some (.slice (some ad) n c) := (blk_cell y3 9).trans rfl
      have a10 : w2.cell? ⟨G4, 0, none⟩ = some (.int .i64 i) := (blk_cell y4 0).trans rfl
      have a11 : w2.cell? ⟨G5, 0, none⟩ = some (.int .i64 j) := (blk_cell y5 0).trans rfl
      have a12 : w2.cell? (ad.add (i + j).toNat) = some (.int .i64 y) := pw_cell_below hB2 HEL.out
      have a13 : w2.cell? ⟨G7, 0, none⟩ = some (.int .i64 p) := (blk_cell y7 0).trans rfl
      have a14 : w2.cell? ⟨G7, 1, none⟩ = some (.int .i64 q) := (blk_cell y7 1).trans rfl
      have a15 := blk_frozen y7 0
      have a16 := blk_frozen y7 1
      have Y3 := Aside0.mk y3
      have Y4 := Aside0.mk y4
      have Y5 := Aside0.mk y5
      have Y6 := Aside0.mk y6
      have Y7 := Aside0.mk y7
      have HB2 := Aside0.mk hB2
      clear y3 y4 y5 y6 y7 y9 hB2 lg
      clear HB X3 X4 X5 X6 X7
      have e1 := of_enters true
      have e2 : ∀ args w, (callFunc 61 args).run Tryd.prog w = .ok (.enter 61 args) w := enters_of Tryd.func61 (by kernel_rfl) rfl
      have hh := HH.out
      unfold HoodOK at hh
      have s1 : 0 ≤ sel true j0 j1 ∧ sel true j0 j1 ≤ 30000 := by simp [sel] <;> omega
      have s2 : 0 ≤ sel true f0 f1 ∧ sel true f0 f1 ≤ 10000 := by simp [sel] <;> omega
      have s3 : 0 ≤ missF true b0 b1 y dr ∧ missF true b0 b1 y dr ≤ 1001000 := by
        unfold missF mx sel sgn
        simp
        split <;> omega
      have m1 : 0 ≤ sel true j0 j1 * sel true f0 f1 ∧ sel true j0 j1 * sel true f0 f1 ≤ 300000000 := ⟨Int.mul_nonneg s1.1 s2.1, by have := Int.mul_le_mul s1.2 s2.2 s2.1 (by omega); omega⟩
      have m2 : 0 ≤ sel true j0 j1 * sel true f0 f1 * missF true b0 b1 y dr ∧ sel true j0 j1 * sel true f0 f1 * missF true b0 b1 y dr ≤ 300300000000000 := ⟨Int.mul_nonneg m1.1 s3.1, by have := Int.mul_le_mul m1.2 s3.2 s3.1 (by omega); omega⟩
      have wr1 : IntKind.i64.wrap (sel true j0 j1 * sel true f0 f1) = sel true j0 j1 * sel true f0 f1 := IntWalk.i64_in _ (by omega)
      have wr2 : IntKind.i64.wrap (sel true j0 j1 * sel true f0 f1 * missF true b0 b1 y dr) = sel true j0 j1 * sel true f0 f1 * missF true b0 b1 y dr := IntWalk.i64_in _ (by omega)
      obtain ⟨⟨q0, q1, q2⟩, _, _, _, q3, q4⟩ := hh
      have q5 : 0 ≤ b1 := by omega
      have q6 : b0 ≤ 1000000 := by omega
      clear s1 s2 s3 m1 m2 q1
      go_region_held3 (fun w' => w'.cell? ⟨G9, 0, none⟩ = some (.func (.func (ofF true)) #[] #[]) ∧ w'.cell? ⟨G9, 1, none⟩ = some (.func (.func (offF true)) #[] #[])
          ∧ w'.cell? ⟨G3, 0, none⟩ = some (.int .i64 b0) ∧ w'.cell? ⟨G3, 1, none⟩ = some (.int .i64 b1) ∧ w'.cell? ⟨G3, 2, none⟩ = some (.int .i64 f0) ∧ w'.cell? ⟨G3, 3, none⟩ = some (.int .i64 f1) ∧ w'.cell? ⟨G3, 4, none⟩ = some (.int .i64 j0) ∧ w'.cell? ⟨G3, 5, none⟩ = some (.int .i64 j1)
          ∧ w'.cell? ⟨G3, 8, none⟩ = some (.int .i64 dr) ∧ w'.cell? ⟨G3, 9, none⟩ = some (.slice (some ad) n c)
          ∧ w'.cell? ⟨G4, 0, none⟩ = some (.int .i64 i) ∧ w'.cell? ⟨G5, 0, none⟩ = some (.int .i64 j) ∧ w'.cell? (ad.add (i + j).toNat) = some (.int .i64 y))
        (first
          | go_keep
          | exact ⟨pw_cell_below HC.out a0, pw_cell_below HC.out a1, pw_cell_below HC.out a2, pw_cell_below HC.out a3, pw_cell_below HC.out a4, pw_cell_below HC.out a5, pw_cell_below HC.out a6, pw_cell_below HC.out a7, pw_cell_below HC.out a8, pw_cell_below HC.out a9, pw_cell_below HC.out a10, pw_cell_below HC.out a11, pw_cell_below HC.out a12⟩)
        ((first
          | (go_at_fn (ofF true); (with_reducible refine (of_calls true _ _ _).mono ?_); rintro e w3 ⟨rfl, hb1⟩; have HD : Aside0 (Below w2.heap.size w2 w3) := ⟨by first | exact below_step HC.out hb1 | exact below_step (below_drew (Below.refl _ _)) hb1⟩; (try clear HC); have HC := HD; clear HD hb1)
          | (go_at_fn 61; (with_reducible refine (heat1_calls true G9 G3 G4 G5 b0 b1 dr i j y ad n c _ ?_ ?_ ?_ ?_ ?_ ?_ ?_ ?_ ?_ i0 i1 jj0 jj1 ij q0 q6 q5 q2 q3 q4 y0 y1).mono ?_); (simp [*]); (simp [*]); (simp [*]); (simp [*]); (simp [*]); (simp [*]); (simp [*]); (simp [*]); (simp [*]); rintro e w4 ⟨rfl, hb1⟩; have HD : Aside0 (Below w2.heap.size w2 w4) := ⟨below_step HC.out hb1⟩; clear HC; have HC := HD; clear HD hb1; have z0 := pw_cell_below HC.out a13; have z1 := pw_cell_below HC.out a14; have z2 := frz_below HC.out a13 a15; have z3 := frz_below HC.out a14 a16)))
      have x3 := blk_far (blk_below Y3.out HC.out) (Ne.symm n73) (u := .int .i64 (heatF true b0 b1 f0 f1 j0 j1 dr y)) (p := ⟨G7, 1, none⟩)
      have x4 := blk_far (blk_below Y4.out HC.out) (Ne.symm n74) (u := .int .i64 (heatF true b0 b1 f0 f1 j0 j1 dr y)) (p := ⟨G7, 1, none⟩)
      have x5 := blk_far (blk_below Y5.out HC.out) (Ne.symm n75) (u := .int .i64 (heatF true b0 b1 f0 f1 j0 j1 dr y)) (p := ⟨G7, 1, none⟩)
      have x6 := blk_far (blk_below Y6.out HC.out) (Ne.symm n76) (u := .int .i64 (heatF true b0 b1 f0 f1 j0 j1 dr y)) (p := ⟨G7, 1, none⟩)
      have x7 := blk_put (cs' := #[.int .i64 p, .int .i64 (heatF true b0 b1 f0 f1 j0 j1 dr y)]) (blk_below Y7.out HC.out) 1 (.int .i64 (heatF true b0 b1 f0 f1 j0 j1 dr y)) rfl
      have hB5 : Below w.heap.size w (w4.setCell ⟨G7, 1, none⟩ (.int .i64 (heatF true b0 b1 f0 f1 j0 j1 dr y))) := below_set (below_step HB2.out HC.out) hle
      change (Exit.inBlock 1 _) Exit.normal _ (w4.setCell ⟨G7, 1, none⟩ (.int .i64 (heatF true b0 b1 f0 f1 j0 j1 dr y)))
      clear z0 z1 z2 z3
      generalize w4.setCell ⟨G7, 1, none⟩ (.int .i64 (heatF true b0 b1 f0 f1 j0 j1 dr y)) = w5 at *
      have Z3 := Aside0.mk x3
      have Z4 := Aside0.mk x4
      have Z5 := Aside0.mk x5
      have Z6 := Aside0.mk x6
      have Z7 := Aside0.mk x7
      have HB5 := Aside0.mk hB5
      clear x3 x4 x5 x6 x7 hB5 a0 a1 a2 a3 a4 a5 a6 a7 a8 a9 a10 a11 a12 a13 a14 a15 a16 HC HB2 Y3 Y4 Y5 Y6 Y7 e1 e2 wr1 wr2 hix hu96
      go_wp2
      go_roundg 0
      case measure => omega
      case rel => exact ⟨2, p, heatF true b0 b1 f0 f1 j0 j1 dr y, by omega, by omega, by omega, rfl, HB5, Z3, Z4, Z5, Z6, Z7, ⟨fun _ => HPQ.out.1 (by omega), fun _ => rfl⟩⟩
    · obtain rfl := HPQ.out.1 (by omega)
      obtain rfl := HPQ.out.2 (by omega)
      have z0 := (blk_cell X7.out 0).trans rfl
      have z1 := (blk_cell X7.out 1).trans rfl
      have z2 := (blk_cell X6.out 0).trans rfl
      have z3 := (blk_cell X6.out 1).trans rfl
      have z4 := blk_frozen X6.out 0
      have z5 := blk_frozen X6.out 1
      clear HPQ HEL HGL HH
      go_wp2
      refine bodyPost_ret (results_cell_row rfl _ _ G6 23 #[.int .i64 (heatF false b0 b1 f0 f1 j0 j1 dr y), .int .i64 (heatF true b0 b1 f0 f1 j0 j1 dr y)] (0, 0) _ rfl (by
        refine blk_put (cs := #[.int .i64 (heatF false b0 b1 f0 f1 j0 j1 dr y), .int .i64 0]) ?_ 1 _ rfl
        refine blk_put (cs := #[.int .i64 0, .int .i64 0]) ?_ 0 _ rfl
        exact X6.out) Tryd.underlying23 rfl (by kernel_rfl)) rfl ?_
      exact ⟨rfl, below_set (below_set HB.out hle6) hle6⟩
end Go.Proofs.YtfgclmbndgakgaaDoor
/- burn: the lags of a hood, one after the other: what the iterator yields, to whatever loop. -/
namespace Go.Proofs.YtfgclmbndgakgaaDoor
open Go.RowKit Go.Proofs.YtfgclmbndgakgaaDoorW.PrintWords
attribute [local go_sem] Oper.semAt_some
set_option linter.unusedVariables false
set_option linter.unusedSimpArgs false

/-- all whole numbers from a on, so many -/
def upFrom (a : Int) (n : Nat) : List Int := (List.range n).map fun (k : Nat) => a + (k : Int)
theorem upFrom_succ (a : Int) (n : Nat) : upFrom a (n + 1) = upFrom a n ++ [a + n] := by simp [upFrom, List.range_succ]
/-- a lag that may be -/
abbrev LagT (g0 g1 : Int) : Type := { x : Int // g0 ≤ x ∧ x ≤ g1 }
def Kp8 (g : Nat) (W W' : World) : Prop := W'.heap[g]? = W.heap[g]?

def ductC (b0 b1 f0 f1 j0 j1 g0 g1 dr : Int) (A : Option Addr) (n c : Nat) (sc : Int) : Array Value :=
  #[.int .i64 b0, .int .i64 b1, .int .i64 f0, .int .i64 f1, .int .i64 j0, .int .i64 j1, .int .i64 g0, .int .i64 g1, .int .i64 dr, .slice A n c, .int .i64 sc]

theorem lags_calls (b0 b1 f0 f1 j0 j1 g0 g1 dr : Int) (A : Option Addr) (n c : Nat) (sc : Int) (w : World) :
    Calls Tryd.prog 45 #[.agg (ductC b0 b1 f0 f1 j0 j1 g0 g1 dr A n c sc)] w fun e w' => e = .returned (.func (.func 60) #[] #[.pointer (some ⟨w.heap.size, 0, none⟩)]) ∧ w' = w.alloc (.cells (ductC b0 b1 f0 f1 j0 j1 g0 g1 dr A n c sc) 69) := by
  unfold ductC
  go_enter Tryd.func45, Tryd.ntmps45
  go_wp2
  go_ret
  exact ⟨rfl, rfl⟩

set_option maxRecDepth 100000 in
set_option maxHeartbeats 2000000 in
theorem lags_stops (b0 b1 f0 f1 j0 j1 g0 g1 dr : Int) (A : Option Addr) (n c : Nat) (sc : Int) (hg0 : 0 ≤ g0) (hg1 : g0 ≤ g1) (hg2 : g1 ≤ 30) (F : Fence) (m : Nat) (hF : F.fn 60) (hro : F.round = none) (hm : 1 ≤ m) (B : Nat) (w : World)
    (hb : w.heap[B]? = some (.cells (ductC b0 b1 f0 f1 j0 j1 g0 g1 dr A n c sc) 69)) :
    SeqStopsK F m Tryd.prog 60 #[.pointer (some ⟨B, 0, none⟩)] (fun x : LagT g0 g1 => #[.int .i64 x.1]) (Kp8 B) (fun xs => xs.map (·.1) = upFrom g0 (g1 - g0 + 1).toNat) (fun _ => True) 31 w := by
  intro l J Jx W hW hJ hJx hY h0
  have hB : W.heap[B]? = some (.cells (ductC b0 b1 f0 f1 j0 j1 g0 g1 dr A n c sc) 69) := blk_below hb hW
  have c6 : W.cell? ⟨B, 6, none⟩ = some (.int .i64 g0) := (blk_cell hB 6).trans rfl
  have c7 : W.cell? ⟨B, 7, none⟩ = some (.int .i64 g1) := (blk_cell hB 7).trans rfl
  have HBB := Aside0.mk hB
  clear hB hb hW
  refine callsIn_of_wp Tryd.func60 rfl hF ?_ hro
  simp only [Tryd.ntmps60, List.size_toArray, List.length_cons, List.length_nil, Nat.reduceAdd, Nat.reduceSub, Array.replicate_succ, Array.replicate_zero, List.push_toArray, List.append_toArray, List.nil_append, List.cons_append]
  gi_wp2
  clear c6 c7
  gi_loopw [14] (fun p wr => ∃ (k : Nat) (pre : List (LagT g0 g1)), p = .int .i64 k ∧ (k : Int) ≤ g1 - g0 + 1 ∧ Aside0 (pre.map (·.1) = upFrom g0 k) ∧ J pre wr ∧ Aside0 (wr.heap[B]? = some (.cells (ductC b0 b1 f0 f1 j0 j1 g0 g1 dr A n c sc) 69)))
    (fun p wr => 31 - (intOf p).toNat)
  case atStart => exact ⟨0, [], rfl, by omega, ⟨rfl⟩, h0, HBB⟩
  case round =>
    clear h0 HBB
    obtain ⟨k, pre, rfl, hk, HP, hJs, HBB⟩ := hrel
    by_cases hlt : (k : Int) < g1 - g0 + 1
    · have c6 : wr.cell? ⟨B, 6, none⟩ = some (.int .i64 g0) := (blk_cell HBB.out 6).trans rfl
      obtain ⟨fn, tmps, assign, body, hy, hR⟩ := hY pre ⟨g0 + k, by omega, by omega⟩ wr hJs (by have := congrArg List.length HP.out; simp [upFrom] at this; omega)
      gi_wp2
      refine hR.mono ?_
      rintro e W3 (⟨rfl, hJ3, hk3⟩ | ⟨rfl, hJx3⟩)
      · gi_wp2
        go_roundw
        case rel => exact ⟨k + 1, _, by go_num, by omega, ⟨by rw [upFrom_succ, List.map_append, HP.out]; rfl⟩, hJ3, ⟨hk3.trans HBB.out⟩⟩
        case measure => simp [intOf]; omega
      · gi_wp2
        refine bodyPost_ret (results_none rfl _ _ _) rfl ?_
        exact ⟨⟨_, rfl⟩, .inr ⟨_, trivial, hJx3⟩⟩
    · have HK := Aside0.mk (show (k : Int) = g1 - g0 + 1 by omega)
      gi_wp2
      go_end0
      exact ⟨⟨_, rfl⟩, .inl ⟨pre, by rw [show (g1 - g0 + 1).toNat = k from by have := HK.out; omega]; exact HP.out, hJs⟩⟩
end Go.Proofs.YtfgclmbndgakgaaDoor
/- burn: both and widest: one span that has all that some spans have. -/
namespace Go.Proofs.YtfgclmbndgakgaaDoor
open Go.RowKit Go.Proofs.YtfgclmbndgakgaaDoorW.PrintWords Go.Proofs.YtfgclmbndgakgaaDoorW.PrintMore
attribute [local go_sem] max2_int min2_int max_two min_two max_three min_three max_four min_four
set_option linter.unusedVariables false
set_option linter.unusedSimpArgs false

def hull (a b : Int × Int) : Int × Int := (mn a.1 b.1, mx a.2 b.2)
def spanV (a : Int × Int) : Value := .agg #[.int .i64 a.1, .int .i64 a.2]
def kdS : Kd (Int × Int) := Kd.pair (Kd.int .i64) (Kd.int .i64)

set_option maxHeartbeats 1000000 in
theorem both_calls (a b : Int × Int) (w : World) : Calls Tryd.prog 47 #[spanV a, spanV b] w fun e w' => e = .returned (spanV (hull a b)) ∧ Below w.heap.size w w' := by
  obtain ⟨a0, a1⟩ := a
  obtain ⟨b0, b1⟩ := b
  have hB : Below w.heap.size w (((w.alloc (.cells #[.int .i64 a0, .int .i64 a1] 23)).alloc (.cells #[.int .i64 b0, .int .i64 b1] 23)).alloc (.cells #[.int .i64 (mn a0 b0), .int .i64 (mx a1 b1)] 23)) := below_alloc (below_alloc (below_alloc (Below.refl _ w) _) _) _
  have HB := Aside0.mk hB
  clear hB
  unfold spanV hull
  simp only
  by_cases h0 : b0 < a0 <;> by_cases h1 : a1 < b1
  all_goals
    first | (have e0 : mn a0 b0 = b0 := if_pos h0; rw [e0] at HB ⊢; clear e0) | (have e0 : mn a0 b0 = a0 := if_neg h0; rw [e0] at HB ⊢; clear e0)
    first | (have e1 : mx a1 b1 = b1 := if_pos h1; rw [e1] at HB ⊢; clear e1) | (have e1 : mx a1 b1 = a1 := if_neg h1; rw [e1] at HB ⊢; clear e1)
    go_enter Tryd.func47, Tryd.ntmps47
    go_wp2
    refine bodyPost_ret (results_cell_row rfl _ _ (w.heap.size + 1 + 1) 23 _ (0, 0) _ rfl (blk_new_at _ _ (by simp)) Tryd.underlying23 rfl (by kernel_rfl)) rfl ?_
    exact ⟨rfl, HB.out⟩

/-- a list of spans without its first one -/
theorem C_tail (A : Option Addr) (c : Nat) (x : Int × Int) (l : List (Int × Int)) (hc : (x :: l).length ≤ c) {i : TypeInfo} (hi : Tryd.prog.info? 23 = some i) (hsz : i.size = 2) :
    ∃ A' : Option Addr, (∀ W : World, (Instr.slice 80 (.slice A (x :: l).length c) (some (.int .i64 1)) none none).run Tryd.prog W = .ok (.slice A' l.length (c - 1)) W) ∧
      ∀ w : World, kdS.C w A (x :: l).length (x :: l) → kdS.C w A' l.length l := by
  refine ⟨if c = 1 then A else A.map (·.add 2), fun W => ?_, fun w h => ?_⟩
  · have ht := Tryd.underlying80
    have hel : Tryd.prog.elem 80 = 23 := by simp [Program.elem, ht]
    have hu : Tryd.prog.underlying 80 = some (.slice (Tryd.prog.elem 80)) := by rw [hel]; exact ht
    rw [run_slice_l W 80 A (x :: l).length c hu .i64 1 (by omega) (by simp; omega), hel]
    simp [sizeOf, typeInfo, hi, hsz, sliced, Result.andThen]
  · refine ⟨rfl, by have := h.2.1; simp at this ⊢; omega, fun hp => ?_⟩
    have hc1 : c ≠ 1 := by simp at hc; omega
    obtain ⟨ad, rfl, hcell⟩ := h.2.2 (by simp)
    refine ⟨ad.add 2, by simp [hc1], fun j p hj => ?_⟩
    obtain ⟨cs, h1, h2, h3⟩ := hcell (j + 1) p (by simpa using hj)
    refine ⟨cs, h1, h2, fun i u hu => ?_⟩
    have := h3 i u hu
    rw [show (ad.add 2).add (j * kdS.sz + i) = ad.add ((j + 1) * kdS.sz + i) from by rw [addr_add_add, show kdS.sz = 2 from rfl]; congr 1; omega]
    exact this
theorem infoS : (Tryd.prog.info? 23).map (fun i => (i.zero, i.size, i.bytes)) = some (some (.agg #[.int .i64 0, .int .i64 0]), 2, 16) := by kernel_rfl
/-- an element of a list of spans, as it lies -/
theorem C_span {w : World} {A : Option Addr} {n : Nat} {l : List (Int × Int)} (h : kdS.C w A n l) (k : Nat) (hk : k < n) :
    ∃ ad x, A = some ad ∧ l[k]? = some x ∧ w.cell? (ad.add (k * 2)) = some (.int .i64 x.1) ∧ w.cell? ⟨(ad.add (k * 2)).block, (ad.add (k * 2)).off + 1, none⟩ = some (.int .i64 x.2) := by
  obtain ⟨ad, rfl, hc⟩ := h.2.2 (by omega)
  have hl : k < l.length := by have := h.1; omega
  obtain ⟨cs, h1, h2, h3⟩ := hc k _ (List.getElem?_eq_getElem hl)
  obtain ⟨c0, c1, rfl, rfl, rfl⟩ := h2
  have h4 := h3 1 _ rfl
  rw [show ad.add (k * kdS.sz + 1) = (ad.add (k * 2)).add 1 from by rw [addr_add_add]; rfl] at h4
  exact ⟨ad, l[k], rfl, List.getElem?_eq_getElem hl, h3 0 _ rfl, h4⟩

set_option maxRecDepth 100000 in
set_option maxHeartbeats 2000000 in
theorem widest_calls (A : Option Addr) (c : Nat) (x : Int × Int) (l : List (Int × Int)) (hc : (x :: l).length ≤ c) (w : World) (hr : kdS.C w A (x :: l).length (x :: l)) :
    Calls Tryd.prog 48 #[.slice A (x :: l).length c, .func (.func 47) #[] #[]] w fun e w' => e = .returned (spanV (l.foldl hull x)) ∧ Below w.heap.size w w' := by
  obtain ⟨i0, hi, _, hsz, _⟩ := info_parts infoS
  obtain ⟨A', hcut, htail⟩ := C_tail A c x l hc hi hsz
  have hrt := htail w hr
  have hlen := hr.2.1
  obtain ⟨ad, x', rfl, hx', hc0, hc1⟩ := C_span hr 0 (by simp)
  obtain rfl : x = x' := by simpa using hx'
  simp only [Nat.zero_mul, Nat.zero_add, Addr.add_zero'] at hc0 hc1
  have hpos : (0 : Int) < ((x :: l).length : Int) := by simp
  have HT := Aside0.mk hrt
  clear hr htail hrt hx' hi hsz hc
  obtain ⟨x0, x1⟩ := x
  simp only at hc0 hc1
  replace hc0 := pw_cell_below (below_alloc (Below.refl _ w) (.cells #[.int .i64 0, .int .i64 0] 23)) hc0
  replace hc1 := pw_cell_below (below_alloc (Below.refl _ w) (.cells #[.int .i64 0, .int .i64 0] 23)) hc1
  have eg : ∀ args w, (callFunc 47 args).run Tryd.prog w = .ok (.enter 47 args) w := enters_of Tryd.func47 (by kernel_rfl) rfl
  have hlt : l.length ≤ 9223372036854775807 := by simp at hlen; omega
  generalize hL : ((x0, x1) :: l).length = n at *
  have HLN := Aside0.mk hL
  generalize hL2 : l.length = m at *
  have HL := Aside0.mk hL2
  clear hL hL2
  go_enter Tryd.func48, Tryd.ntmps48
  go_wp2
  obtain ⟨W, hW⟩ : ∃ W, (w.alloc (.cells #[.int .i64 0, .int .i64 0] 23)).alloc (.cells #[.int .i64 x0, .int .i64 x1] 23) = W := ⟨_, rfl⟩
  rw [hW]
  have hB : Below w.heap.size w W := hW ▸ below_alloc (below_alloc (Below.refl _ w) _) _
  have y4 : W.heap[w.heap.size]? = some (.cells #[.int .i64 0, .int .i64 0] 23) := hW ▸ blk_alloc (blk_new _ _) _
  have y5 : W.heap[w.heap.size + 1]? = some (.cells #[.int .i64 x0, .int .i64 x1] 23) := hW ▸ blk_new_at _ _ (by simp)
  have n45 : w.heap.size + 1 ≠ w.heap.size := by omega
  have hle : w.heap.size ≤ w.heap.size + 1 := by omega
  clear hW hc0 hc1 hcut
  generalize w.heap.size + 1 = G5 at *
  obtain ⟨G4, hG4⟩ : ∃ G, G = w.heap.size := ⟨_, rfl⟩
  rw [← hG4] at y4 n45 ⊢
  have hle4 : w.heap.size ≤ G4 := Nat.le_of_eq hG4.symm
  have HG4 := Aside0.mk hG4
  clear hG4
  have Y4 := Aside0.mk y4
  have Y5 := Aside0.mk y5
  have HB := Aside0.mk hB
  clear y4 y5 hB
  go_loopg [14] m (fun gg s14 wr => ∃ (kk : Nat) (p q : Int), kk ≤ m ∧ m - kk ≤ gg ∧ s14 = .int .i64 kk ∧ Aside0 (Below w.heap.size w wr) ∧ Aside0 (wr.heap[G4]? = some (.cells #[.int .i64 0, .int .i64 0] 23))
      ∧ Aside0 (wr.heap[G5]? = some (.cells #[.int .i64 p, .int .i64 q] 23)) ∧ Aside0 ((l.drop kk).foldl hull (p, q) = l.foldl hull (x0, x1)))
  case atStart => exact ⟨0, x0, x1, by omega, by omega, rfl, HB, Y4, Y5, ⟨rfl⟩⟩
  case round =>
    clear HB Y4 Y5
    obtain ⟨kk, p, q, hkk, hg, rfl, HB, Y4, Y5, HF⟩ := hrel
    by_cases hlt : kk < m
    · have hltz : (kk : Int) < (m : Int) := by omega
      obtain ⟨ad', x', rfl, hx', hc0, hc1⟩ := C_span (Kd.C_below HT.out HB.out) kk hlt
      obtain ⟨u0, u1⟩ := x'
      simp only at hc0 hc1
      have HF2 : Aside0 ((l.drop (kk + 1)).foldl hull (hull (p, q) (u0, u1)) = l.foldl hull (x0, x1)) := ⟨by
        have := HF.out
        rw [List.drop_eq_getElem_cons (by rw [HL.out]; exact hlt)] at this
        rw [List.getElem?_eq_getElem (by rw [HL.out]; exact hlt)] at hx'
        rw [Option.some.inj hx'] at this
        exact this⟩
      clear hx' HF
      have b5 := blk_alloc Y5.out (.cells #[.int .i64 u0, .int .i64 u1] 23)
      have c50 := (blk_cell b5 0).trans rfl
      have c51 := (blk_cell b5 1).trans rfl
      have f50 := blk_frozen b5 0
      have f51 := blk_frozen b5 1
      have B5 := Aside0.mk b5
      have B4 := Aside0.mk (blk_alloc Y4.out (.cells #[.int .i64 u0, .int .i64 u1] 23))
      have HB2 := Aside0.mk (below_alloc HB.out (.cells #[.int .i64 u0, .int .i64 u1] 23))
      clear b5 Y4 Y5 HB
      go_wp2_with fail
      generalize wr.alloc (.cells #[.int .i64 u0, .int .i64 u1] 23) = w2 at *
      refine (both_calls (p, q) (u0, u1) w2).mono ?_
      rintro e w3 ⟨rfl, hb⟩
      have b5 := blk_below B5.out hb
      have b4 := blk_below B4.out hb
      have hb3 := below_step HB2.out hb
      clear hb c50 c51 f50 f51 hc0 hc1
      have c50 := (blk_cell b5 0).trans rfl
      have c51 := (blk_cell b5 1).trans rfl
      have f50 := blk_frozen b5 0
      have f51 := blk_frozen b5 1
      have C5 := Aside0.mk b5
      have C4 := Aside0.mk b4
      have HB3 := Aside0.mk hb3
      clear b4 b5 hb3 B4 B5 HB2
      obtain ⟨⟨r0, r1⟩, hR⟩ : ∃ r, r = hull (p, q) (u0, u1) := ⟨_, rfl⟩
      rw [← hR] at HF2 ⊢
      clear hR
      unfold spanV
      simp only
      go_wp2
      go_roundg (m - (kk + 1))
      case measure => omega
      case rel =>
        refine ⟨kk + 1, r0, r1, by omega, by omega, by go_num, ⟨below_set (below_set HB3.out hle) hle⟩, ⟨?_⟩, ⟨?_⟩, HF2⟩
        · exact blk_far (blk_far C4.out (Ne.symm n45) _) (Ne.symm n45) _
        · refine blk_put (cs := #[.int .i64 r0, .int .i64 q]) ?_ 1 _ rfl
          exact blk_put (cs := #[.int .i64 p, .int .i64 q]) C5.out 0 _ rfl
    · have hltz : ¬ (kk : Int) < (m : Int) := by omega
      obtain rfl : kk = m := by omega
      have hF : (p, q) = l.foldl hull (x0, x1) := by
        have := HF.out
        rw [List.drop_of_length_le (by rw [HL.out]; omega)] at this
        exact this
      have HF2 := Aside0.mk hF
      have c50 := (blk_cell Y5.out 0).trans rfl
      have c51 := (blk_cell Y5.out 1).trans rfl
      have c40 := (blk_cell Y4.out 0).trans rfl
      have c41 := (blk_cell Y4.out 1).trans rfl
      have f40 := blk_frozen Y4.out 0
      have f41 := blk_frozen Y4.out 1
      clear hF HF
      go_wp2
      refine bodyPost_ret (results_cell_row rfl _ _ G4 23 #[.int .i64 p, .int .i64 q] (0, 0) _ rfl (by
        refine blk_put (cs := #[.int .i64 p, .int .i64 0]) ?_ 1 _ rfl
        exact blk_put (cs := #[.int .i64 0, .int .i64 0]) Y4.out 0 _ rfl) Tryd.underlying23 rfl (by kernel_rfl)) rfl ?_
      exact ⟨by rw [← HF2.out]; rfl, below_set (below_set HB.out hle4) hle4⟩
end Go.Proofs.YtfgclmbndgakgaaDoor
/- burn: the heat of some seconds, at all lags: the span of all their sums. -/
namespace Go.Proofs.YtfgclmbndgakgaaDoor
open Go.RowKit Go.Proofs.YtfgclmbndgakgaaDoorW.PrintWords Go.Proofs.YtfgclmbndgakgaaDoorW.PrintMore
attribute [local go_sem] Oper.semAt_some
set_option linter.unusedVariables false
set_option linter.unusedSimpArgs false

/-- the heat of some seconds at one lag, at an end -/
def sumH (k : Bool) (b0 b1 f0 f1 j0 j1 dr : Int) (l : List Int) (fr lag : Int) : Nat → Int
  | 0 => 0
  | d + 1 => sumH k b0 b1 f0 f1 j0 j1 dr l fr lag d + heatF k b0 b1 f0 f1 j0 j1 dr (rd l (fr + d + lag))
def ReadsOK (l : List Int) : Prop := l.length ≤ 120 ∧ ∀ y ∈ l, 0 ≤ y ∧ y ≤ 1000000
theorem rd_ok {l : List Int} (h : ReadsOK l) (i : Int) : 0 ≤ rd l i ∧ rd l i ≤ 1000000 := by
  unfold rd
  by_cases hi : i.toNat < l.length
  · rw [List.getD_eq_getElem?_getD, List.getElem?_eq_getElem hi]
    exact h.2 _ (List.getElem_mem hi)
  · rw [List.getD_eq_getElem?_getD, List.getElem?_eq_none (by omega)]
    simp
theorem heatF_ok {k : Bool} {b0 b1 f0 f1 j0 j1 g0 g1 dr y : Int} (hH : HoodOK b0 b1 f0 f1 j0 j1 g0 g1 dr) (h0 : 0 ≤ y) (h1 : y ≤ 1000000) : 0 ≤ heatF k b0 b1 f0 f1 j0 j1 dr y ∧ heatF k b0 b1 f0 f1 j0 j1 dr y ≤ 300300000000000 := by
  unfold HoodOK at hH
  have s1 : 0 ≤ sel k j0 j1 ∧ sel k j0 j1 ≤ 30000 := by cases k <;> simp [sel] <;> omega
  have s2 : 0 ≤ sel k f0 f1 ∧ sel k f0 f1 ≤ 10000 := by cases k <;> simp [sel] <;> omega
  have s3 : 0 ≤ missF k b0 b1 y dr ∧ missF k b0 b1 y dr ≤ 1001000 := by
    unfold missF mx sel sgn
    cases k <;> simp <;> split <;> omega
  have m1 : 0 ≤ sel k j0 j1 * sel k f0 f1 ∧ sel k j0 j1 * sel k f0 f1 ≤ 300000000 := ⟨Int.mul_nonneg s1.1 s2.1, by have := Int.mul_le_mul s1.2 s2.2 s2.1 (by omega); omega⟩
  exact ⟨Int.mul_nonneg m1.1 s3.1, by have := Int.mul_le_mul m1.2 s3.2 s3.1 (by omega); unfold heatF; omega⟩
theorem sumH_ok {k : Bool} {b0 b1 f0 f1 j0 j1 g0 g1 dr : Int} (hH : HoodOK b0 b1 f0 f1 j0 j1 g0 g1 dr) {l : List Int} (hl : ReadsOK l) (fr lag : Int) (d : Nat) :
    0 ≤ sumH k b0 b1 f0 f1 j0 j1 dr l fr lag d ∧ sumH k b0 b1 f0 f1 j0 j1 dr l fr lag d ≤ 300300000000000 * d := by
  induction d with
  | zero => simp [sumH]
  | succ d ih =>
    have hr := rd_ok hl (fr + d + lag)
    have := heatF_ok (k := k) hH hr.1 hr.2
    simp only [sumH]
    omega
def spanAt (b0 b1 f0 f1 j0 j1 dr : Int) (l : List Int) (fr : Int) (d : Nat) (lag : Int) : Int × Int := (sumH false b0 b1 f0 f1 j0 j1 dr l fr lag d, sumH true b0 b1 f0 f1 j0 j1 dr l fr lag d)
def sumS (b0 b1 f0 f1 j0 j1 g0 g1 dr : Int) (l : List Int) (fr to_ : Int) : Int × Int :=
  ((upFrom (g0 + 1) (g1 - g0).toNat).map (spanAt b0 b1 f0 f1 j0 j1 dr l fr (to_ - fr).toNat)).foldl hull (spanAt b0 b1 f0 f1 j0 j1 dr l fr (to_ - fr).toNat g0)
def flatS (l : List (Int × Int)) : List Value := l.flatMap fun p => [.int .i64 p.1, .int .i64 p.2]

theorem blk_own {β : Type} (g : Nat) (cs : Array Value) (t : TypeId) : Own (fun (_ : β) W => W.heap[g]? = some (.cells cs t (0, 0))) := by
  intro s X Y row hs hg hrow
  refine blk_grown hs hg (fun e => ?_)
  obtain ⟨o, ho, hc⟩ := hrow g e.symm
  rw [hs] at ho
  cases ho
  cases hc

theorem kb_below {w w1 : World} (h : Below w.heap.size w w1) : KeepsOthers w w1 := ⟨h.size, fun k o hk _ => (h.block k (blk_lt hk)).trans hk⟩
theorem kb_keepBut {w w1 : World} {g : Nat} {cs : Array Value} {t : TypeId} {fr : Nat × Nat} (h : KeepBut w w1 g none) (hg : w.heap[g]? = some (.cells cs t fr)) : KeepsOthers w w1 :=
  ⟨h.1, fun k o hk hc => (h.2 k (blk_lt hk) (fun e => by subst e; rw [hg] at hk; cases hk; cases hc) (by simp)).trans hk⟩
theorem news_two (w : World) (t : TypeId) (p q : Value) : ∀ j u, [p, q][j]? = some u → (w.alloc (.cells #[p, q] t)).cell? (Addr.add ⟨w.heap.size, 0, none⟩ j) = some u := by
  intro j u hj
  have hb := blk_new w (.cells #[p, q] t)
  have hc := blk_cell hb j
  rw [add_plain]
  rw [hc]
  simpa using hj
theorem upFrom_cons (a : Int) (n : Nat) : upFrom a (n + 1) = a :: upFrom (a + 1) n := by
  simp only [upFrom, List.range_succ_eq_map, List.map_cons, List.map_map]
  congr 1
  · simp
  · apply List.map_congr_left
    intro k _
    simp only [Function.comp, Nat.succ_eq_add_one]
    omega
theorem flatS_append (a b : List (Int × Int)) : flatS (a ++ b) = flatS a ++ flatS b := by simp [flatS]
theorem flatS_length (a : List (Int × Int)) : (flatS a).length = a.length * 2 := by
  induction a with
  | nil => rfl
  | cons x a ih => simp [flatS] at ih ⊢; omega
theorem reps_flatS (w : World) : ∀ l : List (Int × Int), Reps (kdS.K w) 2 l (flatS l)
  | [] => ⟨rfl, fun j p hj => by simp at hj⟩
  | x :: l => by
    have ih := reps_flatS w l
    refine ⟨by rw [flatS_length], fun j p hj => ?_⟩
    cases j with
    | zero =>
      simp at hj
      subst hj
      exact ⟨[.int .i64 x.1], [.int .i64 x.2], by simp [flatS], rfl, rfl⟩
    | succ j =>
      have := ih.2 j p (by simpa using hj)
      have e : (flatS (x :: l)).drop ((j + 1) * 2) = (flatS l).drop (j * 2) := by
        rw [show (j + 1) * 2 = j * 2 + 1 + 1 from by omega]
        rfl
      rw [e]
      exact this
theorem own_spans {w : World} {base : Nat} {v : Value} {x : Int × Int} {l : List (Int × Int)} (h : w.ownsRow base 23 2 v (l.length + 1) (flatS (x :: l))) :
    ∃ A c, v = .slice A (x :: l).length c ∧ (x :: l).length ≤ c ∧ kdS.C w A (x :: l).length (x :: l) := by
  obtain ⟨A, c, hv, hr⟩ := own_reads_row h (reps_flatS w (x :: l)) rfl
  refine ⟨A, c, hv, ?_, hr⟩
  rcases h.2 with ⟨_, h0⟩ | ⟨g, cap, cur, hv', _, _, hc, _⟩
  · omega
  · rw [hv] at hv'
    cases hv'
    exact hc
def allG {α : Type} (G7 : Nat) (n0 : Nat) (f : α → Int × Int) (pre : List α) (W : World) : Prop :=
  ∃ v, Boxed W G7 80 v ∧ W.ownsRow n0 23 2 v pre.length (flatS (pre.map f)) ∧ True

set_option maxRecDepth 100000 in
set_option maxHeartbeats 4000000 in
theorem sum_calls (b0 b1 f0 f1 j0 j1 g0 g1 dr : Int) (hH : HoodOK b0 b1 f0 f1 j0 j1 g0 g1 dr) (A : Option Addr) (c : Nat) (l : List Int) (hl : ReadsOK l) (sc fr to_ : Int) (w : World) (hr : Kd.C (Kd.int .i64) w A l.length l)
    (hf0 : 0 ≤ fr) (hft : fr ≤ to_) (hto : (fr = to_ ∧ to_ ≤ 1000) ∨ to_ + g1 ≤ l.length) (hG : GlobOK w) :
    Calls Tryd.prog 42 #[.agg (ductC b0 b1 f0 f1 j0 j1 g0 g1 dr A l.length c sc), .int .i64 fr, .int .i64 to_] w
      fun e w' => e = .returned (spanV (sumS b0 b1 f0 f1 j0 j1 g0 g1 dr l fr to_)) ∧ Below w.heap.size w w' := by
  refine (callsIn_wide (n := 3)).1 ?_
  have HR := Aside0.mk hr
  have HGL := Aside0.mk hG
  have HH := Aside0.mk hH
  have HLK := Aside0.mk hl
  clear hr hG hH hl
  generalize hL : l.length = n at *
  have HLN := Aside0.mk hL
  clear hL
  unfold ductC
  refine callsIn_of_wp_marks Tryd.func42 rfl trivial ?_ rfl
  simp only [Tryd.ntmps42, List.size_toArray, List.length_cons, List.length_nil, Nat.reduceAdd, Nat.reduceSub, Array.replicate_succ, Array.replicate_zero, List.push_toArray, List.append_toArray, List.nil_append, List.cons_append]
  gi_wp2_with (refine ⟨trivial, ?_⟩; gi_at_call 45; refine (callsIn_wide.2 (lags_calls b0 b1 f0 f1 j0 j1 g0 g1 dr A n c sc _)).mono ?_; rintro e w' ⟨rfl, rfl⟩)
  obtain ⟨W0, hW0⟩ : ∃ W, (((((w.alloc (.cells #[.int .i64 b0, .int .i64 b1, .int .i64 f0, .int .i64 f1, .int .i64 j0, .int .i64 j1, .int .i64 g0, .int .i64 g1, .int .i64 dr, .slice A n c, .int .i64 sc] 69)).alloc (.cells #[.int .i64 fr] 3)).alloc (.cells #[.int .i64 to_] 3)).alloc (.cells #[.int .i64 0, .int .i64 0] 23)).alloc (.cells #[.slice none 0 0] 80)).alloc (.cells (ductC b0 b1 f0 f1 j0 j1 g0 g1 dr A n c sc) 69) = W := ⟨_, rfl⟩
  rw [hW0]
  have hbW : Below w.heap.size w W0 := hW0 ▸ below_alloc (below_alloc (below_alloc (below_alloc (below_alloc (below_alloc (Below.refl _ w) _) _) _) _) _) _
  obtain ⟨x3, x4, x5, x6, x7, x8⟩ : W0.heap[w.heap.size]? = some (.cells #[.int .i64 b0, .int .i64 b1, .int .i64 f0, .int .i64 f1, .int .i64 j0, .int .i64 j1, .int .i64 g0, .int .i64 g1, .int .i64 dr, .slice A n c, .int .i64 sc] 69) ∧ W0.heap[w.heap.size + 1]? = some (.cells #[.int .i64 fr] 3) ∧ W0.heap[w.heap.size + 1 + 1]? = some (.cells #[.int .i64 to_] 3)
      ∧ W0.heap[w.heap.size + 1 + 1 + 1]? = some (.cells #[.int .i64 0, .int .i64 0] 23) ∧ W0.heap[w.heap.size + 1 + 1 + 1 + 1]? = some (.cells #[.slice none 0 0] 80) ∧ W0.heap[w.heap.size + 1 + 1 + 1 + 1 + 1]? = some (.cells (ductC b0 b1 f0 f1 j0 j1 g0 g1 dr A n c sc) 69) := by
    rw [← hW0]
    exact ⟨blk_alloc (blk_alloc (blk_alloc (blk_alloc (blk_alloc (blk_new _ _) _) _) _) _) _, blk_alloc (blk_alloc (blk_alloc (blk_alloc (blk_new_at _ _ (by simp)) _) _) _) _, blk_alloc (blk_alloc (blk_alloc (blk_new_at _ _ (by simp)) _) _) _, blk_alloc (blk_alloc (blk_new_at _ _ (by simp)) _) _, blk_alloc (blk_new_at _ _ (by simp)) _, blk_new_at _ _ (by simp)⟩
  have hN8 : W0.heap.size = w.heap.size + 1 + 1 + 1 + 1 + 1 + 1 := by rw [← hW0]; simp
  clear hW0
  have hle7 : w.heap.size ≤ w.heap.size + 1 + 1 + 1 + 1 := by omega
  have hle6 : w.heap.size ≤ w.heap.size + 1 + 1 + 1 := by omega
  have n73 : w.heap.size + 1 + 1 + 1 + 1 ≠ w.heap.size := by omega
  have n74 : w.heap.size + 1 + 1 + 1 + 1 ≠ w.heap.size + 1 := by omega
  have n75 : w.heap.size + 1 + 1 + 1 + 1 ≠ w.heap.size + 1 + 1 := by omega
  have n76 : w.heap.size + 1 + 1 + 1 + 1 ≠ w.heap.size + 1 + 1 + 1 := by omega
  have n78 : w.heap.size + 1 + 1 + 1 + 1 ≠ w.heap.size + 1 + 1 + 1 + 1 + 1 := by omega
  generalize w.heap.size + 1 + 1 + 1 + 1 + 1 = G8 at *
  generalize w.heap.size + 1 + 1 + 1 + 1 = G7 at *
  generalize w.heap.size + 1 + 1 + 1 = G6 at *
  generalize w.heap.size + 1 + 1 = G5 at *
  generalize w.heap.size + 1 = G4 at *
  obtain ⟨G3, hG3⟩ : ∃ G, G = w.heap.size := ⟨_, rfl⟩
  rw [← hG3] at x3 n73 ⊢
  have HG3 := Aside0.mk hG3
  clear hG3
  have hh := HH.out
  unfold HoodOK at hh
  obtain ⟨_, _, _, ⟨hg0, hg1, hg2⟩, _⟩ := hh
  have hst := lags_stops b0 b1 f0 f1 j0 j1 g0 g1 dr A n c sc hg0 hg1 hg2 Fence.wide 2 trivial rfl (by omega) G8 W0 x8
  have hl8 := blk_lt x8
  have hl3 := blk_lt x3
  have hl4 := blk_lt x4
  have hl5 := blk_lt x5
  have hl6 := blk_lt x6
  have hl7 := blk_lt x7
  obtain ⟨N0, hN0⟩ : ∃ N0, N0 = W0.heap.size := ⟨_, rfl⟩
  have hNw : w.heap.size ≤ N0 := by have := hbW.size; omega
  rw [← hN0] at hl3 hl4 hl5 hl6 hl7 hl8 hN8
  have HN0 := Aside0.mk hN0
  have HN8 := Aside0.mk hN8
  clear hN0 hN8
  refine wpIn_rangeFunc_ownF (w := W0) rfl (by omega) (gf := 60) (lb := #[.pointer (some ⟨G8, 0, none⟩)]) rfl trivial (enters_of Tryd.func60 (by kernel_rfl) rfl)
    hst (fun h k => k.trans h) (fun W l o o' hl _ _ _ => World.putObj_heap_other (by have := HN0.out; omega)) (Below.refl _ _) (fun _ => rfl)
    (fun pre W => (W.heap[G3]? = some (.cells #[.int .i64 b0, .int .i64 b1, .int .i64 f0, .int .i64 f1, .int .i64 j0, .int .i64 j1, .int .i64 g0, .int .i64 g1, .int .i64 dr, .slice A n c, .int .i64 sc] 69) ∧ W.heap[G4]? = some (.cells #[.int .i64 fr] 3) ∧ W.heap[G5]? = some (.cells #[.int .i64 to_] 3) ∧ W.heap[G6]? = some (.cells #[.int .i64 0, .int .i64 0] 23) ∧ W.heap[G8]? = some (.cells (ductC b0 b1 f0 f1 j0 j1 g0 g1 dr A n c sc) 69) ∧ allG G7 N0 (fun x : LagT g0 g1 => spanAt b0 b1 f0 f1 j0 j1 dr l fr (to_ - fr).toNat x.1) pre W) ∧ Below w.heap.size w W)
    (fun _ _ _ => False)
    (OwnFrom.and (Own.from (fun s X Y row hs hg hr => ⟨blk_own G3 _ _ s X Y row hs.1 hg hr, blk_own G4 _ _ s X Y row hs.2.1 hg hr, blk_own G5 _ _ s X Y row hs.2.2.1 hg hr, blk_own G6 _ _ s X Y row hs.2.2.2.1 hg hr, blk_own G8 _ _ s X Y row hs.2.2.2.2.1 hg hr, holdsRow_own N0 _ _ _ 2 (fun pre : List (LagT g0 g1) => pre.length) (fun pre => flatS (pre.map (fun x : LagT g0 g1 => spanAt b0 b1 f0 f1 j0 j1 dr l fr (to_ - fr).toNat x.1))) (fun _ _ => True) s X Y row hs.2.2.2.2.2 hg hr⟩) _) (ownFrom_below (Nat.le_refl _) hbW.size))
    (fun _ _ _ _ _ hs _ _ => hs)
    ⟨⟨x3, x4, x5, x6, x8, _, x7, own_nil _ _ _ _, trivial⟩, hbW⟩
    (fun x => { tmps := #[.agg #[.int .i64 b0, .int .i64 b1, .int .i64 f0, .int .i64 f1, .int .i64 j0, .int .i64 j1, .int .i64 g0, .int .i64 g1, .int .i64 dr, .slice A n c, .int .i64 sc], .int .i64 fr, .int .i64 to_, .pointer (some ⟨G3, 0, none⟩), .pointer (some ⟨G4, 0, none⟩), .pointer (some ⟨G5, 0, none⟩), .pointer (some ⟨G6, 0, none⟩), .pointer (some ⟨G7, 0, none⟩), .int .i64 x.1, undef, undef, undef, .agg #[.int .i64 b0, .int .i64 b1, .int .i64 f0, .int .i64 f1, .int .i64 j0, .int .i64 j1, .int .i64 g0, .int .i64 g1, .int .i64 dr, .slice A n c, .int .i64 sc], .func (.func 60) #[] #[.pointer (some ⟨G8, 0, none⟩)], .int .i64 x.1, undef, undef, undef, undef, undef, undef, undef, undef, undef, undef, undef, undef, undef, undef, undef, undef, undef, undef, undef, undef, undef, undef, undef, undef, undef, undef, undef, undef, undef, undef], defers := [] }) ?assign ?body ?done ?stop
  case assign =>
    intro l' x W K hK
    gi_wp2
    exact hK
  case body =>
    clear x3 x4 x5 x6 x7 x8 hbW hst
    rintro l' pre ⟨x, hx0, hx1⟩ W ⟨⟨x3, x4, x5, x6, x8, v, x7, hrow, _⟩, hB⟩ hlen
    simp only
    have l7 := blk_lt x7
    have hNW : N0 ≤ W.heap.size := by have := blk_lt x8; have := HN8.out; omega
    have n97 : W.heap.size ≠ G7 := by omega
    have lt9 := blk_lt x3
    have lt4 := blk_lt x4
    have lt5 := blk_lt x5
    have hle9 : w.heap.size ≤ W.heap.size := hB.size
    have o9 : v.ownBlock ≠ some W.heap.size := fun e => by have := own_lt hrow _ e; omega
    obtain ⟨W1, hW1⟩ : ∃ W1, W.alloc (.cells #[.int .i64 0, .int .i64 0] 23) = W1 := ⟨_, rfl⟩
    have y3 : W1.heap[G3]? = some (.cells #[.int .i64 b0, .int .i64 b1, .int .i64 f0, .int .i64 f1, .int .i64 j0, .int .i64 j1, .int .i64 g0, .int .i64 g1, .int .i64 dr, .slice A n c, .int .i64 sc] 69) := hW1 ▸ blk_alloc x3 _
    have y4 : W1.heap[G4]? = some (.cells #[.int .i64 fr] 3) := hW1 ▸ blk_alloc x4 _
    have y5 : W1.heap[G5]? = some (.cells #[.int .i64 to_] 3) := hW1 ▸ blk_alloc x5 _
    have y9 : W1.heap[W.heap.size]? = some (.cells #[.int .i64 0, .int .i64 0] 23) := hW1 ▸ blk_new _ _
    have hB1 : Below w.heap.size w W1 := hW1 ▸ below_alloc hB _
    have hK1 : Below W.heap.size W W1 := hW1 ▸ below_alloc (Below.refl _ W) _
    have c4 : (W.alloc (.cells #[.int .i64 0, .int .i64 0] 23)).cell? ⟨G4, 0, none⟩ = some (.int .i64 fr) := hW1 ▸ (blk_cell y4 0).trans rfl
    have c5 : (W.alloc (.cells #[.int .i64 0, .int .i64 0] 23)).cell? ⟨G5, 0, none⟩ = some (.int .i64 to_) := hW1 ▸ (blk_cell y5 0).trans rfl
    have hsub : fr ≤ 1000 ∧ to_ ≤ 1000 := by have := HLK.out.1; have := HLN.out; omega
    have X3 := Aside0.mk x3
    have X4 := Aside0.mk x4
    have X5 := Aside0.mk x5
    have X6 := Aside0.mk x6
    have X7 := Aside0.mk x7
    have X8 := Aside0.mk x8
    have HROW := Aside0.mk hrow
    have HB := Aside0.mk hB
    clear x3 x4 x5 x6 x7 x8 hrow hB
    have HW1 := Aside0.mk hW1
    clear hW1 y3 y4 y5 y9 hB1 hK1
    gi_wp2
    rw [HW1.out]
    have hW1 := HW1.out
    have y3 : W1.heap[G3]? = some (.cells #[.int .i64 b0, .int .i64 b1, .int .i64 f0, .int .i64 f1, .int .i64 j0, .int .i64 j1, .int .i64 g0, .int .i64 g1, .int .i64 dr, .slice A n c, .int .i64 sc] 69) := hW1 ▸ blk_alloc X3.out _
    have y4 : W1.heap[G4]? = some (.cells #[.int .i64 fr] 3) := hW1 ▸ blk_alloc X4.out _
    have y5 : W1.heap[G5]? = some (.cells #[.int .i64 to_] 3) := hW1 ▸ blk_alloc X5.out _
    have y9 : W1.heap[W.heap.size]? = some (.cells #[.int .i64 0, .int .i64 0] 23) := hW1 ▸ blk_new _ _
    have hB1 : Below w.heap.size w W1 := hW1 ▸ below_alloc HB.out _
    have hK1 : Below W.heap.size W W1 := hW1 ▸ below_alloc (Below.refl _ W) _
    clear c4 c5
    have Y3 := Aside0.mk y3
    have Y4 := Aside0.mk y4
    have Y5 := Aside0.mk y5
    have Y9 := Aside0.mk y9
    have HB1 := Aside0.mk hB1
    have HK1 := Aside0.mk hK1
    clear y3 y4 y5 y9 hB1 hK1 hW1
    obtain ⟨G9, hG9⟩ : ∃ G, G = W.heap.size := ⟨_, rfl⟩
    rw [← hG9] at n97 hle9 o9 Y9 l7 lt9 lt4 lt5 hNW ⊢
    have HG9 := Aside0.mk hG9
    clear hG9
    gi_loopw [18] (fun s18 wr => ∃ (k : Nat), s18 = .int .i64 k ∧ (k : Int) ≤ to_ - fr ∧ Aside0 (Below w.heap.size w wr) ∧ Aside0 (KeepBut W1 wr G9 none) ∧ Aside0 (wr.heap[G9]? = some (.cells #[.int .i64 (sumH false b0 b1 f0 f1 j0 j1 dr l fr x k), .int .i64 (sumH true b0 b1 f0 f1 j0 j1 dr l fr x k)] 23)))
      (fun s18 wr => 1000 - (intOf s18).toNat)
    case atStart => exact ⟨0, rfl, by omega, HB1, ⟨KeepBut.refl _ _ _⟩, Y9⟩
    case round =>
      clear HB1
      obtain ⟨k, rfl, hk, HB2, HKB, Z9⟩ := hrel
      by_cases hlt : (k : Int) < to_ - fr
      · have z3 := HKB.out.blk Y3.out (by omega) (by simp)
        have z4 := HKB.out.blk Y4.out (by omega) (by simp)
        have z5 := HKB.out.blk Y5.out (by omega) (by simp)
        have d0 : wr.cell? ⟨G3, 0, none⟩ = some (.int .i64 b0) := (blk_cell z3 0).trans rfl
        have d1 : wr.cell? ⟨G3, 1, none⟩ = some (.int .i64 b1) := (blk_cell z3 1).trans rfl
        have d2 : wr.cell? ⟨G3, 2, none⟩ = some (.int .i64 f0) := (blk_cell z3 2).trans rfl
        have d3 : wr.cell? ⟨G3, 3, none⟩ = some (.int .i64 f1) := (blk_cell z3 3).trans rfl
        have d4 : wr.cell? ⟨G3, 4, none⟩ = some (.int .i64 j0) := (blk_cell z3 4).trans rfl
        have d5 : wr.cell? ⟨G3, 5, none⟩ = some (.int .i64 j1) := (blk_cell z3 5).trans rfl
        have d6 : wr.cell? ⟨G3, 6, none⟩ = some (.int .i64 g0) := (blk_cell z3 6).trans rfl
        have d7 : wr.cell? ⟨G3, 7, none⟩ = some (.int .i64 g1) := (blk_cell z3 7).trans rfl
        have d8 : wr.cell? ⟨G3, 8, none⟩ = some (.int .i64 dr) := (blk_cell z3 8).trans rfl
        have d9 : wr.cell? ⟨G3, 9, none⟩ = some (.slice A n c) := (blk_cell z3 9).trans rfl
        have d10 : wr.cell? ⟨G3, 10, none⟩ = some (.int .i64 sc) := (blk_cell z3 10).trans rfl
        have d11 : wr.cell? ⟨G4, 0, none⟩ = some (.int .i64 fr) := (blk_cell z4 0).trans rfl
        have hrd := rd_ok HLK.out (fr + k + x)
        clear z3 z4 z5
        have hc := heat_calls b0 b1 f0 f1 j0 j1 g0 g1 dr HH.out A c l sc (fr + k) x wr (by rw [HLN.out]; exact Kd.C_below HR.out HB2.out) (by omega) (by omega) (by omega) (by omega) (by rw [HLN.out]; omega) hrd.1 hrd.2 (HGL.out.below HB2.out)
        rw [HLN.out] at hc
        have HC := Aside0.mk hc
        clear hc
        gi_wp2_with fail
        refine ⟨trivial, CallsIn.inRound l' (callsIn_wide.2 ?_)⟩
        refine HC.out.mono ?_
        rintro e w2 ⟨rfl, hb⟩
        clear d0 d1 d2 d3 d4 d5 d6 d7 d8 d9 d10 d11 HC
        have hS0 := sumH_ok (k := false) HH.out HLK.out fr x k
        have hS1 := sumH_ok (k := true) HH.out HLK.out fr x k
        have hS2 := sumH_ok (k := false) HH.out HLK.out fr x (k + 1)
        have hS3 := sumH_ok (k := true) HH.out HLK.out fr x (k + 1)
        have hq0 : sumH false b0 b1 f0 f1 j0 j1 dr l fr x (k + 1) = sumH false b0 b1 f0 f1 j0 j1 dr l fr x k + heatF false b0 b1 f0 f1 j0 j1 dr (rd l (fr + k + x)) := rfl
        have hq1 : sumH true b0 b1 f0 f1 j0 j1 dr l fr x (k + 1) = sumH true b0 b1 f0 f1 j0 j1 dr l fr x k + heatF true b0 b1 f0 f1 j0 j1 dr (rd l (fr + k + x)) := rfl
        have Hq0 := Aside0.mk hq0
        have Hq1 := Aside0.mk hq1
        generalize sumH false b0 b1 f0 f1 j0 j1 dr l fr x k = p at *
        generalize sumH true b0 b1 f0 f1 j0 j1 dr l fr x k = q at *
        generalize heatF false b0 b1 f0 f1 j0 j1 dr (rd l (fr + k + x)) = hp at *
        generalize heatF true b0 b1 f0 f1 j0 j1 dr (rd l (fr + k + x)) = hq at *
        have hpq : -9000000000000000000 ≤ p + hp ∧ p + hp ≤ 9000000000000000000 ∧ -9000000000000000000 ≤ q + hq ∧ q + hq ≤ 9000000000000000000 := by omega
        clear hq0 hq1 hS0 hS1 hS2 hS3 hrd
        have b9 := blk_below Z9.out hb
        have hB3 := below_step HB2.out hb
        have hK3 : KeepBut W1 w2 G9 none := HKB.out.trans (KeepBut.of_below hb G9 none) (.inl rfl)
        have a9 := blk_alloc b9 (.cells #[.int .i64 hp, .int .i64 hq] 23)
        have d0 := (blk_cell a9 0).trans rfl
        have d1 := (blk_cell a9 1).trans rfl
        have d2 := blk_frozen a9 0
        have d3 := blk_frozen a9 1
        have B9 := Aside0.mk a9
        have HB3 := Aside0.mk (below_alloc hB3 (.cells #[.int .i64 hp, .int .i64 hq] 23))
        have HK3 := Aside0.mk (keep_alloc hK3 (.cells #[.int .i64 hp, .int .i64 hq] 23))
        clear b9 hB3 hK3 a9 hb HKB HB2 Z9
        gi_wp2
        go_roundw
        case rel =>
          refine ⟨k + 1, by go_num, by omega, ⟨below_set (below_set HB3.out hle9) hle9⟩, ⟨(HK3.out.set_ 0 _).set_ 1 _⟩, ⟨?_⟩⟩
          rw [Hq0.out, Hq1.out]
          refine blk_put (cs := #[.int .i64 (p + hp), .int .i64 q]) ?_ 1 _ rfl
          exact blk_put (cs := #[.int .i64 p, .int .i64 q]) B9.out 0 _ rfl
        case measure => simp [intOf]; omega
      · have HKE := Aside0.mk (show (k : Int) = to_ - fr by omega)
        clear hk
        have hKO1 : KeepsOthers W W1 := kb_below (by have := HK1.out; exact this)
        have hKO2 : KeepsOthers W1 wr := kb_keepBut HKB.out Y9.out
        have hv1 : Boxed W1 G7 80 v := HW1.out ▸ blk_alloc X7.out _
        have hv : Boxed wr G7 80 v := HKB.out.blk hv1 (Ne.symm n97) (by simp)
        have hrow1 : W1.ownsRow N0 23 2 v pre.length (flatS (pre.map (fun x : LagT g0 g1 => spanAt b0 b1 f0 f1 j0 j1 dr l fr (to_ - fr).toNat x.1))) := by
          have h0 := HROW.out.alloc (.cells #[.int .i64 0, .int .i64 0] 23)
          rw [HW1.out] at h0
          exact h0
        have hrow : wr.ownsRow N0 23 2 v pre.length (flatS (pre.map (fun x : LagT g0 g1 => spanAt b0 b1 f0 f1 j0 j1 dr l fr (to_ - fr).toNat x.1))) := by
          refine HKB.out.own hrow1 o9 ?_
          cases hv' : v.ownBlock with
          | none => exact .inl rfl
          | some _ => exact .inr (by simp)
        have z3 := HKB.out.blk Y3.out (by omega) (by simp)
        have z4 := HKB.out.blk Y4.out (by omega) (by simp)
        have z5 := HKB.out.blk Y5.out (by omega) (by simp)
        have z6 := HKB.out.blk (show W1.heap[G6]? = some (.cells #[.int .i64 0, .int .i64 0] 23) from HW1.out ▸ blk_alloc X6.out _) (by have := blk_lt X6.out; have := HG9.out; omega) (by simp)
        have z8 := HKB.out.blk (show W1.heap[G8]? = some (.cells (ductC b0 b1 f0 f1 j0 j1 g0 g1 dr A n c sc) 69) from HW1.out ▸ blk_alloc X8.out _) (by have := blk_lt X8.out; have := HG9.out; omega) (by simp)
        have hcap : v = v := rfl
        have Hfl : Aside0 (flatS (pre.map (fun x : LagT g0 g1 => spanAt b0 b1 f0 f1 j0 j1 dr l fr (to_ - fr).toNat x.1)) ++ [.int .i64 (sumH false b0 b1 f0 f1 j0 j1 dr l fr x k), .int .i64 (sumH true b0 b1 f0 f1 j0 j1 dr l fr x k)] = flatS ((pre ++ [(⟨x, hx0, hx1⟩ : LagT g0 g1)]).map (fun x : LagT g0 g1 => spanAt b0 b1 f0 f1 j0 j1 dr l fr (to_ - fr).toNat x.1))) := ⟨by
          rw [List.map_append, flatS_append, show (to_ - fr).toNat = k from by have := HKE.out; omega]
          rfl⟩
        generalize sumH false b0 b1 f0 f1 j0 j1 dr l fr x k = p at *
        generalize sumH true b0 b1 f0 f1 j0 j1 dr l fr x k = q at *
        generalize hfl : flatS (pre.map (fun x : LagT g0 g1 => spanAt b0 b1 f0 f1 j0 j1 dr l fr (to_ - fr).toNat x.1)) = fl at *
        clear hfl
        have ha1 := (blk_cell Z9.out 0).trans rfl
        have ha2 := (blk_cell Z9.out 1).trans rfl
        have ha3 := hv.cell
        have hsz := HB2.out.size
        have HV := Aside0.mk hv
        have ZZ3 := Aside0.mk z3
        have ZZ4 := Aside0.mk z4
        have ZZ5 := Aside0.mk z5
        have ZZ6 := Aside0.mk z6
        have ZZ8 := Aside0.mk z8
        have HKO := Aside0.mk (hKO1.trans hKO2)
        have HRW := Aside0.mk hrow
        clear hKO1 hKO2 hv hv1 hrow hrow1 z3 z4 z5 z6 z8 hcap
        obtain ⟨i0, hi, hz, hsz', hby⟩ := info_parts infoS
        have hbig : N0 ≤ wr.heap.size + 1 := by have := blk_lt Z9.out; omega
        have hne7 : Aside0 (∀ g, g < N0 → some g ≠ v.ownBlock) := ⟨fun g hg e => by have := own_base HRW.out g e.symm; omega⟩
        have hnews := news_two wr 23 (.int .i64 p) (.int .i64 q)
        have HNEWS := Aside0.mk hnews
        have h1c : Aside0 (∀ u ∈ ([.int .i64 p, .int .i64 q] : List Value), u.oneCell' = true) := ⟨by simp [Value.oneCell']⟩
        have h16 : (pre.length + 1) * 16 ≤ 140737488355328 := by omega
        clear hnews
        have hlen' : pre.length + 1 ≤ maxLen := by unfold maxLen; omega
        gi_wp2_with ((gi_at_builtin; go_must (refine wpListIn_append_own_at _ rfl _ _ 80 rfl N0 23 i0 (.agg #[.int .i64 0, .int .i64 0]) 2 16 Tryd.underlying80 hi hz hsz' hby rfl (by decide) v pre.length fl rfl (HRW.out.alloc _) ⟨wr.heap.size, 0, none⟩ 1 1 [.int .i64 p, .int .i64 q] rfl rfl HNEWS.out h1c.out hlen' h16 (by simpa using hbig) ?_); intro v' w5 hown' hgrow hne hat; clear hne; obtain ⟨g', cap', rfl⟩ := ownsRow_succ hown'; have hq7 := blk_grown (blk_alloc HV.out _) hgrow (hne7.out G7 hl7); have hq8 := (blk_cell hq7 0).trans rfl; have hq9 := blk_frozen hq7 0; have HOWN := Aside0.mk hown'; have HGR := Aside0.mk hgrow; have HAT := Aside0.mk hat; have HQ7 := Aside0.mk hq7; clear hown' hgrow hat hq7))
        have k3 := blk_grown (blk_alloc ZZ3.out _) HGR.out (hne7.out G3 hl3)
        have k4 := blk_grown (blk_alloc ZZ4.out _) HGR.out (hne7.out G4 hl4)
        have k5 := blk_grown (blk_alloc ZZ5.out _) HGR.out (hne7.out G5 hl5)
        have k6 := blk_grown (blk_alloc ZZ6.out _) HGR.out (hne7.out G6 hl6)
        have k8 := blk_grown (blk_alloc ZZ8.out _) HGR.out (hne7.out G8 hl8)
        have kB := (below_alloc HB2.out (.cells #[.int .i64 p, .int .i64 q] 23)).grown HGR.out (below_alloc HB2.out (.cells #[.int .i64 p, .int .i64 q] 23)).size (fun k e => by have := own_base HRW.out k e; omega)
        have kO : KeepsOthers W w5 := (HKO.out.trans (KeepsOthers.alloc wr _)).trans (KeepsOthers.of_grownBy HGR.out (fun j o e ho => by
          obtain ⟨cells, hc⟩ := own_typed (HRW.out.alloc (.cells #[.int .i64 p, .int .i64 q] 23)) j e
          rw [hc] at ho
          cases ho
          rfl))
        refine ⟨kO.trans (KeepsOthers.setCell _ _ _), (blk_far k8 (Ne.symm n78) _).trans X8.out.symm, ⟨blk_far k3 (Ne.symm n73) _, blk_far k4 (Ne.symm n74) _, blk_far k5 (Ne.symm n75) _, blk_far k6 (Ne.symm n76) _, blk_far k8 (Ne.symm n78) _, _, blk_put HQ7.out 0 _ rfl, ?_, trivial⟩, below_set kB hle7⟩
        have hfin := ownsRow_setCell_below HOWN.out (a := ⟨G7, 0, none⟩) (by exact hl7) (.slice (some ⟨g', 0, none⟩) (pre.length + 1) cap')
        rw [Hfl.out] at hfin
        rw [List.length_append]
        exact hfin
  case done =>
    clear x3 x4 x5 x6 x7 x8 hst hbW
    rintro D ys W hD hS ⟨⟨x3, x4, x5, x6, x8, v, x7, hrow, _⟩, hB⟩ hK
    have hmap : ys.map (fun x : LagT g0 g1 => spanAt b0 b1 f0 f1 j0 j1 dr l fr (to_ - fr).toNat x.1) = (upFrom g0 (g1 - g0 + 1).toNat).map (spanAt b0 b1 f0 f1 j0 j1 dr l fr (to_ - fr).toNat) := by
      rw [← hS, List.map_map]
      rfl
    rw [show (g1 - g0 + 1).toNat = (g1 - g0).toNat + 1 from by omega, upFrom_cons, List.map_cons] at hmap
    rw [hmap] at hrow
    have hlen : ys.length = (g1 - g0).toNat + 1 := by
      have := congrArg List.length hS
      simp [upFrom] at this
      omega
    rw [hlen] at hrow
    obtain ⟨S, hSd⟩ : ∃ S, S = sumS b0 b1 f0 f1 j0 j1 g0 g1 dr l fr to_ := ⟨_, rfl⟩
    have HSD := Aside0.mk hSd
    unfold sumS at hSd
    generalize spanAt b0 b1 f0 f1 j0 j1 dr l fr (to_ - fr).toNat g0 = s0 at *
    generalize hrest : (upFrom (g0 + 1) (g1 - g0).toNat).map (spanAt b0 b1 f0 f1 j0 j1 dr l fr (to_ - fr).toNat) = rest at *
    have hrl : rest.length = (g1 - g0).toNat := by rw [← hrest]; simp [upFrom]
    rw [← hrl] at hrow
    obtain ⟨A', c', hv, hcap, hread⟩ := own_spans hrow
    subst hv
    have hc := widest_calls A' c' s0 rest hcap W hread
    rw [← hSd] at hc
    obtain ⟨S0, S1⟩ := S
    simp only [spanV] at hc
    have HC := Aside0.mk hc
    have h7 := (blk_cell x7 0).trans rfl
    have nD6 : D ≠ G6 := fun e => by subst e; rw [hK] at x6; cases x6
    have X6 := Aside0.mk x6
    have HB := Aside0.mk hB
    have HK := Aside0.mk hK
    have HD := Aside0.mk hD
    clear hc x3 x4 x5 x6 x7 x8 hB hK hD hrow hread hcap hSd hS hmap hlen hrl hrest
    gi_wp2_with fail
    refine ⟨trivial, callsIn_wide.2 ?_⟩
    refine HC.out.mono ?_
    rintro e w2 ⟨rfl, hb⟩
    have y6 := blk_below X6.out hb
    have yK := blk_below HK.out hb
    have HB2 := Aside0.mk (below_step HB.out hb)
    have d0 := blk_frozen y6 0
    have d1 := blk_frozen y6 1
    have e0 := (blk_cell y6 0).trans rfl
    have e1 := (blk_cell y6 1).trans rfl
    have Y6 := Aside0.mk y6
    have YK := Aside0.mk yK
    clear y6 yK hb HC
    gi_wp2
    have hK' : ((w2.setCell ⟨G6, 0, none⟩ (.int .i64 S0)).setCell ⟨G6, 1, none⟩ (.int .i64 S1)).heap[D]? = some (.deferred (some [])) :=
      (Below.heap_setCell _ ⟨G6, 1, none⟩ _ _ nD6).trans ((Below.heap_setCell w2 ⟨G6, 0, none⟩ _ _ nD6).trans YK.out)
    have h6 : ((w2.setCell ⟨G6, 0, none⟩ (.int .i64 S0)).setCell ⟨G6, 1, none⟩ (.int .i64 S1)).heap[G6]? = some (.cells #[.int .i64 S0, .int .i64 S1] 23) := blk_put (cs := #[.int .i64 S0, .int .i64 0]) (blk_put (cs := #[.int .i64 0, .int .i64 0]) Y6.out 0 _ rfl) 1 _ rfl
    have hBB := below_set (below_set HB2.out hle6 (v := .int .i64 S0) (j := 0)) hle6 (v := .int .i64 S1) (j := 1)
    refine ⟨by simp, .inl ⟨_, _, rfl, run_takeDeferred hK', ?_⟩⟩
    have hsz0 : w.heap.size ≤ W0.heap.size := by have := HN0.out; omega
    refine ⟨_, results_cell_row rfl _ _ G6 23 _ _ (.struct _) rfl ((World.putObj_heap_other (Ne.symm nD6)).trans h6) rfl rfl rfl, ?_, ?_⟩
    · rw [← HSD.out]
      rfl
    · exact hBB.trans (belowK_b (w := w) (Nat.le_refl _) _ D _ _ (by have := HD.out; omega) hK' rfl rfl)
  case stop =>
    rintro D c' pre W _ _ h _
    exact h.elim
end Go.Proofs.YtfgclmbndgakgaaDoor
