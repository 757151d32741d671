/- burn.First: in which seconds a level may be reached first. (Printed by wip/tpl/gen_first.py.) / What burn.Sum and burn.First tell, said by what is the least and the greatest over all lags: plain law. / Printed for this claim by this session's own driver over the kit's printer: the machine side of plain functions: what each returns, and that it leaves memory below its own blocks alone. -/
import Derived.Test.YtaijhbliagjeaaaDoorPkLawBurnWider3
import Derived.Sort.LoopGhostIn
import Derived.Sort.MapsRangeIn
import Derived.Test.YtaijhbliagjeaaaDoorProg
import Derived.Below
import Derived.Deep.Draws
import Derived.Deep.AppendLies
import Derived.Maps.AppendAt
import Derived.OwnWalk
import Derived.Laws.BytesArg
import Derived.Laws.MakeOwn
import Derived.Laws.OwnMore
import Derived.Deep.OwnRows
import Derived.Tactics
import Derived.Lib.ConvBytes
import Derived.Laws.Slices
import Derived.WalkKit
import Derived.KernelRfl
import Derived.RowKit3
import Derived.Deep.LoopGhost
import Derived.Deep.QuietTactic
import Derived.BigQuiet
import Derived.WideLaws
import Derived.Deep.DeepCutAuto
import Derived.Deep.CutBlock
import Derived.Deep.RegionHeld3
import Derived.Laws.Rows
import Derived.Lib.AppendStr
import Derived.ArgAppend
import Derived.Laws.IdiomCopy
import Derived.OrdersHeld
import Derived.Laws.BitsLemmas
import Derived.RowKit
import Derived.Test.YtaijhbliagjeaaaDoorPkLawBurnWider1
import Derived.Test.YtaijhbliagjeaaaDoorPkLawBurnWider2
namespace Go.Proofs.YtaijhbliagjeaaaDoor
open Go.RowKit Go.Proofs.YtaijhbliagjeaaaDoorW.PrintWords Go.Proofs.YtaijhbliagjeaaaDoorW.PrintMore Go.Proofs.YtaijhbliagjeaaaDoor.PC2
attribute [local go_sem] Oper.semAt_some
set_option linter.unusedVariables false
set_option linter.unusedSimpArgs false
def lagF (b0 b1 f0 f1 j0 j1 g0 g1 dr : Int) (l : List Int) (lv sc : Int) (st : List (Int × (Int × Int)) × Int) (x : Int) : List (Int × (Int × Int)) × Int :=
  let r := scanF (fun i => heatF true b0 b1 f0 f1 j0 j1 dr (rd l (i + x))) (fun i => heatF false b0 b1 f0 f1 j0 j1 dr (rd l (i + x))) lv x st.1 sc.toNat
  (r.1, if r.2 then st.2 + 1 else st.2)
def lagsF (b0 b1 f0 f1 j0 j1 g0 g1 dr : Int) (l : List Int) (lv sc : Int) (xs : List Int) : List (Int × (Int × Int)) × Int := xs.foldl (lagF b0 b1 f0 f1 j0 j1 g0 g1 dr l lv sc) ([], 0)
theorem lagsF_snoc (b0 b1 f0 f1 j0 j1 g0 g1 dr : Int) (l : List Int) (lv sc : Int) (xs : List Int) (x : Int) : lagsF b0 b1 f0 f1 j0 j1 g0 g1 dr l lv sc (xs ++ [x]) = lagF b0 b1 f0 f1 j0 j1 g0 g1 dr l lv sc (lagsF b0 b1 f0 f1 j0 j1 g0 g1 dr l lv sc xs) x := by
  unfold lagsF
  rw [List.foldl_append]
  rfl
theorem lagF_sure (b0 b1 f0 f1 j0 j1 g0 g1 dr : Int) (l : List Int) (lv sc : Int) : ∀ (xs : List Int) (st : List (Int × (Int × Int)) × Int), st.2 ≤ (xs.foldl (lagF b0 b1 f0 f1 j0 j1 g0 g1 dr l lv sc) st).2 ∧ (xs.foldl (lagF b0 b1 f0 f1 j0 j1 g0 g1 dr l lv sc) st).2 ≤ st.2 + xs.length
  | [], st => by simp
  | x :: xs, st => by
    have ih := lagF_sure b0 b1 f0 f1 j0 j1 g0 g1 dr l lv sc xs (lagF b0 b1 f0 f1 j0 j1 g0 g1 dr l lv sc st x)
    have h1 : st.2 ≤ (lagF b0 b1 f0 f1 j0 j1 g0 g1 dr l lv sc st x).2 ∧ (lagF b0 b1 f0 f1 j0 j1 g0 g1 dr l lv sc st x).2 ≤ st.2 + 1 := by
      unfold lagF
      simp only
      split <;> omega
    simp only [List.foldl_cons, List.length_cons]
    omega
theorem imSet_len {β : Type} (x : Int) (v : β) : ∀ l : List (Int × β), (imGet x (imSet x v l)).isSome = true ∧ (imSet x v l).length ≤ l.length + 1 ∧ ((imGet x l).isSome = true → (imSet x v l).length = l.length)
  | [] => by simp [imGet, imSet]
  | p :: r => by
    have ih := imSet_len x v r
    by_cases h : p.1 = x
    · simp [imGet, imSet, h]
    · simp only [imGet, imSet, h, ↓reduceIte, List.length_cons]
      exact ⟨ih.1, by omega, fun hs => by have := ih.2.2 hs; omega⟩
theorem scanF_len (hi lo : Int → Int) (lv x : Int) (m : List (Int × (Int × Int))) : ∀ k : Nat, (scanF hi lo lv x m k).1 = m ∨ ((imGet x (scanF hi lo lv x m k).1).isSome = true ∧ (scanF hi lo lv x m k).1.length ≤ m.length + 1)
  | 0 => .inl rfl
  | k + 1 => by
    have ih := scanF_len hi lo lv x m k
    simp only [scanF]
    split
    · exact ih
    · split
      · exact ih
      · right
        have hs := imSet_len x (hullAt (imGet x (scanF hi lo lv x m k).1) k) (scanF hi lo lv x m k).1
        refine ⟨hs.1, ?_⟩
        rcases ih with h | ⟨h1, h2⟩
        · rw [h] at hs ⊢
          exact hs.2.1
        · have h3 := hs.2.2 h1
          rw [h3]
          exact h2
theorem lagsF_len (b0 b1 f0 f1 j0 j1 g0 g1 dr : Int) (l : List Int) (lv sc : Int) : ∀ (xs : List Int) (st : List (Int × (Int × Int)) × Int), (xs.foldl (lagF b0 b1 f0 f1 j0 j1 g0 g1 dr l lv sc) st).1.length ≤ st.1.length + xs.length
  | [], st => by simp
  | x :: xs, st => by
    have ih := lagsF_len b0 b1 f0 f1 j0 j1 g0 g1 dr l lv sc xs (lagF b0 b1 f0 f1 j0 j1 g0 g1 dr l lv sc st x)
    have h1 : (lagF b0 b1 f0 f1 j0 j1 g0 g1 dr l lv sc st x).1.length ≤ st.1.length + 1 := by
      unfold lagF
      simp only
      rcases scanF_len (fun i => heatF true b0 b1 f0 f1 j0 j1 dr (rd l (i + x))) (fun i => heatF false b0 b1 f0 f1 j0 j1 dr (rd l (i + x))) lv x st.1 sc.toNat with h | h
      · rw [h]; omega
      · exact h.2
    simp only [List.foldl_cons, List.length_cons]
    omega
def firstG (b0 b1 f0 f1 j0 j1 g0 g1 dr : Int) (l : List Int) (lv : Int) : Option (Int × Int × Int) :=
  if HoodOK b0 b1 f0 f1 j0 j1 g0 g1 dr ∧ ReadsOK l then
    match hullL ((lagsF b0 b1 f0 f1 j0 j1 g0 g1 dr l lv (secS g1 l.length) (upFrom g0 (g1 - g0 + 1).toNat)).1.map (·.2)) with
    | none => some (0, 0, 0)
    | some s => some (s.1, s.2, if (lagsF b0 b1 f0 f1 j0 j1 g0 g1 dr l lv (secS g1 l.length) (upFrom g0 (g1 - g0 + 1).toNat)).2 = g1 - g0 + 1 then 2 else 1)
  else none
def burn_First.f (k : Nat) (b0 b1 f0 f1 j0 j1 g0 g1 dr : Int) (l : List Int) (lv : Int) : Option (Int × Int × Int × Int) :=
  (burn_Check.f k b0 b1 f0 f1 j0 j1 g0 g1 dr l).bind fun e => if e = 0 then (if lv < 1 then some (0, 0, 0, 2) else (firstG b0 b1 f0 f1 j0 j1 g0 g1 dr l lv).map (fun p => (p.1, p.2.1, p.2.2, 0))) else some (0, 0, 0, e)
theorem burn_First.mono : ∀ b0 b1 f0 f1 j0 j1 g0 g1 dr l lv k, LeO (burn_First.f k b0 b1 f0 f1 j0 j1 g0 g1 dr l lv) (burn_First.f (k + 1) b0 b1 f0 f1 j0 j1 g0 g1 dr l lv) := by
  intro b0 b1 f0 f1 j0 j1 g0 g1 dr l lv k
  unfold burn_First.f
  exact LeO.bind (burn_Check.mono _ _ _ _ _ _ _ _ _ _ _) (fun _ => LeO.refl _)
theorem secS_ok {g1 n : Int} (h0 : 0 ≤ g1) (h1 : g1 ≤ 30) (h2 : 0 ≤ n) (h3 : n ≤ 120) : 0 ≤ secS g1 n ∧ secS g1 n ≤ 120 ∧ (secS g1 n ≤ 0 ∨ secS g1 n + g1 ≤ n) := by
  unfold secS mx wrap64
  split <;> omega
def kvS (p : Int × (Int × Int)) : Int × Value := (p.1, spanV p.2)
theorem blk_ownF {β : Type} (g : Nat) (cs : β → Array Value) (t : TypeId) : Own (fun (x : β) W => W.heap[g]? = some (.cells (cs x) t (0, 0))) := by
  intro s X Y row hs hg hrow
  refine blk_grown hs hg (fun e => ?_)
  obtain ⟨o, ho, hc⟩ := hrow g e.symm
  rw [hs] at ho
  cases ho
  cases hc
theorem keepsFrom_put {B : Nat} (W : World) (M : Nat) (o : Obj) (hM : M < B) : KeepsFrom B W (W.putObj M o) := by
  refine ⟨by simp, fun k o' hB hk _ => (World.putObj_heap_other (by omega)).trans hk⟩
theorem below_put {w W : World} {M : Nat} {o : Obj} (h : Below w.heap.size w W) (hM : w.heap.size ≤ M) : Below w.heap.size w (W.putObj M o) := by
  refine h.trans ⟨rfl, rfl, rfl, by simp, fun k hk => World.putObj_heap_other (by omega)⟩
theorem nil_or_snoc {α : Type} (l : List α) : l = [] ∨ ∃ i z, l = i ++ [z] := by
  rcases List.eq_nil_or_concat l with h | ⟨i, z, h⟩
  · exact .inl h
  · exact .inr ⟨i, z, by rw [h, List.concat_eq_append]⟩
theorem zeroS (w : World) : (zeroValue 23).run Tryd.prog w = .ok (.agg #[.int .i64 0, .int .i64 0]) w := by go_simp
set_option maxHeartbeats 40000000 in
set_option maxRecDepth 100000 in
theorem burn_First.calls (k : Nat) (b0 b1 f0 f1 j0 j1 g0 g1 dr : Int) (A : Option Addr) (c : Nat) (l : List Int) (lv : Int) (r1 r2 r3 r4 : Int) (w : World) (hr : Kd.C (Kd.int .i64) w A l.length l) (hc : l.length ≤ c) (hG : GlobOK w) (h : burn_First.f k b0 b1 f0 f1 j0 j1 g0 g1 dr l lv = some (r1, r2, r3, r4)) :
    Calls Tryd.prog 9 #[.agg #[.int .i64 b0, .int .i64 b1, .int .i64 f0, .int .i64 f1, .int .i64 j0, .int .i64 j1, .int .i64 g0, .int .i64 g1, .int .i64 dr], .slice A l.length c, .int .i64 lv] w fun e w' => e = .returned (.tuple #[.agg #[.int .i64 r1, .int .i64 r2], .int .u8 r3, .int .i64 r4]) ∧ Below w.heap.size w w' := by
  unfold burn_First.f at h
  obtain ⟨e0, hck, h⟩ := Option.bind_eq_some_iff.1 h
  have H1 := fun W hr => open_calls k b0 b1 f0 f1 j0 j1 g0 g1 dr A c l e0 W hr hc hck
  have HO := Aside0.mk H1
  have HR := Aside0.mk hr
  have HGL := Aside0.mk hG
  have HH := Aside0.mk h
  clear H1 hr hG hck h
  refine (callsIn_wide (n := 3)).1 ?_
  refine callsIn_of_wp_marks Tryd.func9 rfl trivial ?_ rfl
  simp only [Tryd.ntmps9, List.size_toArray, List.length_cons, List.length_nil, Nat.reduceAdd, Nat.reduceSub, Array.replicate_succ, Array.replicate_zero, List.push_toArray, List.append_toArray, List.nil_append, List.cons_append]
  gi_wp2_with fail
  obtain ⟨W, hW⟩ : ∃ W, ((w.alloc (.cells #[.int .i64 b0, .int .i64 b1, .int .i64 f0, .int .i64 f1, .int .i64 j0, .int .i64 j1, .int .i64 g0, .int .i64 g1, .int .i64 dr] 25)).alloc (.cells #[.int .i64 lv] 3)).alloc (.cells #[.int .i64 0, .int .i64 0] 23) = W := ⟨_, rfl⟩
  rw [hW]
  have hbW : Below w.heap.size w W := hW ▸ below_alloc (below_alloc (below_alloc (Below.refl _ w) _) _) _
  have b5 : W.heap[w.heap.size + 1]? = some (.cells #[.int .i64 lv] 3) := hW ▸ blk_alloc (blk_new_at _ _ (by simp)) _
  have b6 : W.heap[w.heap.size + 1 + 1]? = some (.cells #[.int .i64 0, .int .i64 0] 23) := hW ▸ blk_new_at _ _ (by simp)
  clear hW
  have hle : w.heap.size ≤ w.heap.size + 1 + 1 := by omega
  have n65 : w.heap.size + 1 + 1 ≠ w.heap.size + 1 := by omega
  generalize w.heap.size + 1 + 1 = G6 at *
  generalize w.heap.size + 1 = G5 at *
  refine ⟨trivial, ?_⟩
  refine (callsIn_wide.2 (HO.out W (Kd.C_below HR.out hbW))).mono ?_
  rintro e w1 ⟨rfl, hb1⟩
  have HB1 := Aside0.mk (below_step hbW hb1)
  replace b5 := blk_below b5 hb1
  replace b6 := blk_below b6 hb1
  clear hb1 hbW HO
  have hlt := blk_lt b6
  have hlt5 := blk_lt b5
  have h := HH.out
  clear HH
  obtain ⟨sc, hsc⟩ : ∃ sc, secS g1 l.length = sc := ⟨_, rfl⟩
  rw [hsc]
  have HSC := Aside0.mk hsc
  clear hsc
  generalize hL : l.length = n at *
  have HLN := Aside0.mk hL
  clear hL
  unfold ductC
  by_cases he : e0 = 0
  · rw [if_pos he] at h
    subst he
    by_cases hlv : lv < 1
    · rw [if_pos hlv] at h
      simp only [Option.some.injEq, Prod.mk.injEq] at h
      obtain ⟨rfl, rfl, rfl, rfl⟩ := h
      have c5 := (blk_cell b5 0).trans rfl
      have d3_ := (blk_cell b6 0).trans rfl
      have d4_ := (blk_cell b6 1).trans rfl
      have f3_ := blk_frozen b6 0
      have f4_ := blk_frozen b6 1
      have BK := Aside0.mk b6
      clear b5 b6
      gi_wp2
      go_goals
      refine ⟨_, results_ctt rfl _ _ G6 23 #[.int .i64 0, .int .i64 0] (0, 0) _ rfl (by
        refine blk_alloc ?_ _
        refine blk_put (cs := #[.int .i64 0, .int .i64 0]) ?_ 1 _ rfl
        refine blk_put (cs := #[.int .i64 0, .int .i64 0]) ?_ 0 _ rfl
        exact BK.out) Tryd.underlying23 rfl (by kernel_rfl), rfl, ?_⟩
      exact below_alloc (below_set (below_set HB1.out hle) hle) _
    · rw [if_neg hlv] at h
      obtain ⟨⟨p, q, kn⟩, hf, h⟩ := Option.map_eq_some_iff.1 h
      simp only [Prod.mk.injEq] at h
      obtain ⟨rfl, rfl, rfl, rfl⟩ := h
      unfold firstG at hf
      split at hf
      case isFalse => simp at hf
      rename_i hok
      obtain ⟨hH, hl⟩ := hok
      have HF := Aside0.mk hf
      have HH := Aside0.mk hH
      have HLK := Aside0.mk hl
      clear hf hH hl
      have c5 := (blk_cell b5 0).trans rfl
      have B5 := Aside0.mk b5
      have B6 := Aside0.mk b6
      clear b5 b6
      have hmk := run_makeMap (P := Tryd.prog) 55
      gi_wp2_with (refine ⟨trivial, ?_⟩; gi_at_call 23; refine (callsIn_wide.2 (lags_calls b0 b1 f0 f1 j0 j1 g0 g1 dr A n c sc _)).mono ?_; rintro e w' ⟨rfl, rfl⟩)
      obtain ⟨W0, hW0⟩ : ∃ W, (((((w1.alloc (.cells (ductC b0 b1 f0 f1 j0 j1 g0 g1 dr A n c sc) 52)).alloc (.map #[] 0)).alloc (.cells #[.map (some (w1.heap.size + 1))] 55)).alloc (.cells #[.int .i64 0] 3)).alloc (.cells (ductC b0 b1 f0 f1 j0 j1 g0 g1 dr A n c sc) 52)) = W := ⟨_, rfl⟩
      rw [show (((((w1.alloc (.cells #[.int .i64 b0, .int .i64 b1, .int .i64 f0, .int .i64 f1, .int .i64 j0, .int .i64 j1, .int .i64 g0, .int .i64 g1, .int .i64 dr, .slice A n c, .int .i64 sc] 52)).alloc (.map #[] 0)).alloc (.cells #[.map (some (w1.heap.size + 1))] 55)).alloc (.cells #[.int .i64 0] 3)).alloc (.cells (ductC b0 b1 f0 f1 j0 j1 g0 g1 dr A n c sc) 52)) = W0 from hW0]
      have hbW0 : Below w.heap.size w W0 := hW0 ▸ below_alloc (below_alloc (below_alloc (below_alloc (below_alloc HB1.out _) _) _) _) _
      have x5 : W0.heap[G5]? = some (.cells #[.int .i64 lv] 3) := hW0 ▸ blk_alloc (blk_alloc (blk_alloc (blk_alloc (blk_alloc B5.out _) _) _) _) _
      have x6 : W0.heap[G6]? = some (.cells #[.int .i64 0, .int .i64 0] 23) := hW0 ▸ blk_alloc (blk_alloc (blk_alloc (blk_alloc (blk_alloc B6.out _) _) _) _) _
      have x9 : W0.heap[w1.heap.size]? = some (.cells (ductC b0 b1 f0 f1 j0 j1 g0 g1 dr A n c sc) 52) := hW0 ▸ blk_alloc (blk_alloc (blk_alloc (blk_alloc (blk_new _ _) _) _) _) _
      have xM : IMap W0 (w1.heap.size + 1) [] := by
        have h0 := IMap.new (w1.alloc (.cells (ductC b0 b1 f0 f1 j0 j1 g0 g1 dr A n c sc) 52))
        rw [show (w1.alloc (.cells (ductC b0 b1 f0 f1 j0 j1 g0 g1 dr A n c sc) 52)).heap.size = w1.heap.size + 1 from by simp] at h0
        rw [← hW0]
        exact ((h0.alloc _).alloc _).alloc _
      have x10 : W0.heap[w1.heap.size + 1 + 1]? = some (.cells #[.map (some (w1.heap.size + 1))] 55) := hW0 ▸ blk_alloc (blk_alloc (blk_new_at _ _ (by simp)) _) _
      have x11 : W0.heap[w1.heap.size + 1 + 1 + 1]? = some (.cells #[.int .i64 0] 3) := hW0 ▸ blk_alloc (blk_new_at _ _ (by simp)) _
      have xL : W0.heap[w1.heap.size + 1 + 1 + 1 + 1]? = some (.cells (ductC b0 b1 f0 f1 j0 j1 g0 g1 dr A n c sc) 52) := hW0 ▸ blk_new_at _ _ (by simp)
      have hN0 : W0.heap.size = w1.heap.size + 1 + 1 + 1 + 1 + 1 := by rw [← hW0]; simp
      clear hW0 B5 B6 c5 hmk
      have hw1 := HB1.out.size
      have nM9 : w1.heap.size + 1 ≠ w1.heap.size := by omega
      have hle1 : w.heap.size ≤ w1.heap.size + 1 + 1 + 1 := by omega
      have hleM : w.heap.size ≤ w1.heap.size + 1 := by omega
      have n1_5 : w1.heap.size + 1 + 1 + 1 ≠ G5 := by omega
      have n1_6 : w1.heap.size + 1 + 1 + 1 ≠ G6 := by omega
      have n1_9 : w1.heap.size + 1 + 1 + 1 ≠ w1.heap.size := by omega
      have n1_10 : w1.heap.size + 1 + 1 + 1 ≠ w1.heap.size + 1 + 1 := by omega
      have n1_M : w1.heap.size + 1 + 1 + 1 ≠ w1.heap.size + 1 := by omega
      have n1_L : w1.heap.size + 1 + 1 + 1 ≠ w1.heap.size + 1 + 1 + 1 + 1 := by omega
      have nM5 : w1.heap.size + 1 ≠ G5 := by omega
      have nM6 : w1.heap.size + 1 ≠ G6 := by omega
      have nM10 : w1.heap.size + 1 ≠ w1.heap.size + 1 + 1 := by omega
      have nML : w1.heap.size + 1 ≠ w1.heap.size + 1 + 1 + 1 + 1 := by omega
      generalize w1.heap.size + 1 + 1 + 1 + 1 = GL at *
      generalize w1.heap.size + 1 + 1 + 1 = G11 at *
      generalize w1.heap.size + 1 + 1 = G10 at *
      generalize w1.heap.size + 1 = GM at *
      generalize w1.heap.size = G9 at *
      have hh := HH.out
      unfold HoodOK at hh
      obtain ⟨_, _, _, ⟨hg0, hg1, hg2⟩, _⟩ := hh
      have hscx := secS_ok (n := (n : Int)) (show 0 ≤ g1 from by omega) hg2 (by omega) (by have := HLK.out.1; have := HLN.out; omega)
      rw [HSC.out] at hscx
      have hst := lags_stops b0 b1 f0 f1 j0 j1 g0 g1 dr A n c sc hg0 hg1 hg2 Fence.wide 2 trivial rfl (by omega) GL W0 xL
      have hlL := blk_lt xL
      have hl5 := blk_lt x5
      have hl6 := blk_lt x6
      have hl9 := blk_lt x9
      have hl10 := blk_lt x10
      have hl11 := blk_lt x11
      have hlM := xM.lt
      obtain ⟨N0, hNN⟩ : ∃ N0, N0 = W0.heap.size := ⟨_, rfl⟩
      have hNw : w.heap.size ≤ N0 := by have := hbW0.size; omega
      rw [← hNN] at hl5 hl6 hl9 hl10 hl11 hlL hlM hN0
      have HN0 := Aside0.mk hNN
      have HNL := Aside0.mk hN0
      clear hNN hN0
      refine wpIn_rangeFunc_ownG (w := W0) rfl (by omega) (gf := 35) (lb := #[.pointer (some ⟨GL, 0, none⟩)]) rfl trivial (enters_of Tryd.func35 (by kernel_rfl) rfl)
        hst (fun h k => k.trans h) (fun W l o o' hl _ _ _ => World.putObj_heap_other (by have := HN0.out; omega)) (Below.refl _ _) (fun _ => rfl)
        (fun pre W => ((W.heap[G5]? = some (.cells #[.int .i64 lv] 3) ∧ W.heap[G6]? = some (.cells #[.int .i64 0, .int .i64 0] 23) ∧ W.heap[G9]? = some (.cells (ductC b0 b1 f0 f1 j0 j1 g0 g1 dr A n c sc) 52) ∧ W.heap[G10]? = some (.cells #[.map (some GM)] 55) ∧ W.heap[GL]? = some (.cells (ductC b0 b1 f0 f1 j0 j1 g0 g1 dr A n c sc) 52) ∧ W.heap[G11]? = some (.cells #[.int .i64 (lagsF b0 b1 f0 f1 j0 j1 g0 g1 dr l lv sc (pre.map (·.1))).2] 3)) ∧ IMap W GM ((lagsF b0 b1 f0 f1 j0 j1 g0 g1 dr l lv sc (pre.map (·.1))).1.map kvS)) ∧ Below w.heap.size w W)
        (fun _ _ _ => False)
        (OwnFrom.and (OwnFrom.and (Own.from (fun s X Y row hs hg hr => ⟨blk_own G5 _ _ s X Y row hs.1 hg hr, blk_own G6 _ _ s X Y row hs.2.1 hg hr, blk_own G9 _ _ s X Y row hs.2.2.1 hg hr, blk_own G10 _ _ s X Y row hs.2.2.2.1 hg hr, blk_own GL _ _ s X Y row hs.2.2.2.2.1 hg hr, blk_ownF G11 (fun pre : List (LagT g0 g1) => #[.int .i64 (lagsF b0 b1 f0 f1 j0 j1 g0 g1 dr l lv sc (pre.map (·.1))).2]) _ s X Y row hs.2.2.2.2.2 hg hr⟩) _) (ownFrom_imap GM (by have := HN0.out; omega) (fun pre : List (LagT g0 g1) => (lagsF b0 b1 f0 f1 j0 j1 g0 g1 dr l lv sc (pre.map (·.1))).1.map kvS))) (ownFrom_below (Nat.le_refl _) hbW0.size))
        (fun _ _ _ _ _ hs _ _ => hs)
        ⟨⟨⟨x5, x6, x9, x10, xL, x11⟩, xM⟩, hbW0⟩
        (fun x => { tmps := #[.agg #[.int .i64 b0, .int .i64 b1, .int .i64 f0, .int .i64 f1, .int .i64 j0, .int .i64 j1, .int .i64 g0, .int .i64 g1, .int .i64 dr], .slice A n c, .int .i64 lv, .pointer (some ⟨w.heap.size, 0, none⟩), undef, .pointer (some ⟨G5, 0, none⟩), .pointer (some ⟨G6, 0, none⟩), .int .u8 0, .int .i64 0, .pointer (some ⟨G9, 0, none⟩), .pointer (some ⟨G10, 0, none⟩), .pointer (some ⟨G11, 0, none⟩), .int .i64 x.1, undef, undef, undef, undef, undef, undef, undef, .tuple #[.agg #[.int .i64 b0, .int .i64 b1, .int .i64 f0, .int .i64 f1, .int .i64 j0, .int .i64 j1, .int .i64 g0, .int .i64 g1, .int .i64 dr, .slice A n c, .int .i64 sc], .int .i64 0], .agg #[.int .i64 b0, .int .i64 b1, .int .i64 f0, .int .i64 f1, .int .i64 j0, .int .i64 j1, .int .i64 g0, .int .i64 g1, .int .i64 dr], .slice A n c, .tuple #[.agg #[.int .i64 b0, .int .i64 b1, .int .i64 f0, .int .i64 f1, .int .i64 j0, .int .i64 j1, .int .i64 g0, .int .i64 g1, .int .i64 dr, .slice A n c, .int .i64 sc], .int .i64 0], .agg #[.int .i64 b0, .int .i64 b1, .int .i64 f0, .int .i64 f1, .int .i64 j0, .int .i64 j1, .int .i64 g0, .int .i64 g1, .int .i64 dr, .slice A n c, .int .i64 sc], .int .i64 0, .int .i64 0, .bool false, undef, undef, .int .i64 lv, .bool (decide (lv < 1)), undef, .map (some GM), .agg #[.int .i64 b0, .int .i64 b1, .int .i64 f0, .int .i64 f1, .int .i64 j0, .int .i64 j1, .int .i64 g0, .int .i64 g1, .int .i64 dr, .slice A n c, .int .i64 sc], .func (.func 35) #[] #[.pointer (some ⟨GL, 0, none⟩)], .int .i64 x.1, undef, undef, undef, undef, undef, undef, undef, undef, undef, undef, undef, undef, undef, undef, undef, undef, undef, undef, undef, undef, undef, undef, undef, undef, undef, undef, undef, undef, undef, undef, undef, undef, undef, undef, undef, undef, undef, undef, undef, undef, undef, undef, undef, undef, undef, undef, undef, undef, undef, undef, undef, undef, undef, undef, undef, undef, undef, undef, undef, undef, undef, undef, undef, undef, undef, undef, undef, undef, undef, undef, undef, undef, undef, undef, undef, undef, undef, undef, undef, undef, undef, undef, undef], defers := [] }) ?assign ?body ?done ?stop
      case assign =>
        intro l' x W K hK
        gi_wp2
        exact hK
      case body =>
        clear x5 x6 x9 xM x10 x11 xL hst hbW0
        rintro l' pre ⟨x, hx0, hx1⟩ W ⟨⟨⟨x5, x6, x9, x10, xL, x11⟩, xM⟩, hB⟩ hlen
        have hmx : Tryd.prog.follows .mixedOrders = true := by kernel_rfl
        have hsure := lagF_sure b0 b1 f0 f1 j0 j1 g0 g1 dr l lv sc (pre.map (·.1)) ([], 0)
        rw [List.length_map] at hsure
        have hsnoc : (pre ++ [(⟨x, hx0, hx1⟩ : LagT g0 g1)]).map (·.1) = pre.map (·.1) ++ [x] := by simp
        have HSN := Aside0.mk (lagsF_snoc b0 b1 f0 f1 j0 j1 g0 g1 dr l lv sc (pre.map (·.1)) x)
        have HAP := Aside0.mk hsnoc
        clear hsnoc
        unfold lagF at HSN
        have hsure' : 0 ≤ (lagsF b0 b1 f0 f1 j0 j1 g0 g1 dr l lv sc (pre.map (·.1))).2 ∧ (lagsF b0 b1 f0 f1 j0 j1 g0 g1 dr l lv sc (pre.map (·.1))).2 ≤ 1000 := by
          unfold lagsF
          have : (([], 0) : List (Int × (Int × Int)) × Int).2 = 0 := rfl
          omega
        clear hsure
        generalize lagsF b0 b1 f0 f1 j0 j1 g0 g1 dr l lv sc (pre.map (·.1)) = st at *
        obtain ⟨m0, su⟩ := st
        simp only at hsure' x11 xM HSN ⊢
        have hc10 : W.cell? ⟨G9, 10, none⟩ = some (.int .i64 sc) := (blk_cell x9 10).trans rfl
        have X5 := Aside0.mk x5
        have X6 := Aside0.mk x6
        have X9 := Aside0.mk x9
        have X10 := Aside0.mk x10
        have X11 := Aside0.mk x11
        have XL := Aside0.mk xL
        have XM := Aside0.mk xM
        have HB := Aside0.mk hB
        clear x5 x6 x9 x10 x11 xL xM hB
        have hNW : N0 ≤ W.heap.size := by have := blk_lt XL.out; have := HNL.out; omega
        gi_wp2_with (first | apply wpIn_label | apply wpIn_scope_straight)
        gi_loopw [39] (fun s39 wr => ∃ (k : Nat), s39 = .int .i64 k ∧ ((k : Int) ≤ sc) ∧ (scanF (fun i => heatF true b0 b1 f0 f1 j0 j1 dr (rd l (i + x))) (fun i => heatF false b0 b1 f0 f1 j0 j1 dr (rd l (i + x))) lv x m0 k).2 = false ∧ Aside0 (Below w.heap.size w wr) ∧ Aside0 (KeepsFrom N0 W wr)
            ∧ Aside0 (wr.heap[G5]? = some (.cells #[.int .i64 lv] 3)) ∧ Aside0 (wr.heap[G6]? = some (.cells #[.int .i64 0, .int .i64 0] 23)) ∧ Aside0 (wr.heap[G9]? = some (.cells (ductC b0 b1 f0 f1 j0 j1 g0 g1 dr A n c sc) 52)) ∧ Aside0 (wr.heap[G10]? = some (.cells #[.map (some GM)] 55)) ∧ Aside0 (wr.heap[GL]? = some (.cells (ductC b0 b1 f0 f1 j0 j1 g0 g1 dr A n c sc) 52)) ∧ Aside0 (wr.heap[G11]? = some (.cells #[.int .i64 su] 3))
            ∧ Aside0 (IMap wr GM ((scanF (fun i => heatF true b0 b1 f0 f1 j0 j1 dr (rd l (i + x))) (fun i => heatF false b0 b1 f0 f1 j0 j1 dr (rd l (i + x))) lv x m0 k).1.map kvS)))
          (fun s39 wr => 1000 - (intOf s39).toNat)
        case atStart => exact ⟨0, rfl, by omega, rfl, HB, ⟨KeepsFrom.refl _ _⟩, X5, X6, X9, X10, XL, X11, XM⟩
        case round =>
          clear X5 X6 X9 X10 X11 XM HB hc10
          obtain ⟨k, rfl, hk, hgo, HB, HKF, Z5, Z6, Z9, Z10, ZL, Z11, ZM⟩ := hrel
          by_cases hlt : (k : Int) < sc
          · have hrl : (k : Int) + x < n := by omega
            have hrd := rd_ok HLK.out (k + x)
            have hc := heat_calls b0 b1 f0 f1 j0 j1 g0 g1 dr HH.out A c l sc k x wr (by rw [HLN.out]; exact Kd.C_below HR.out HB.out) (by omega) (by omega) (by omega) (by omega) (by rw [HLN.out]; exact hrl) hrd.1 hrd.2 (HGL.out.below HB.out)
            rw [HLN.out] at hc
            have HC := Aside0.mk hc
            have HSC1 : Aside0 (scanF (fun i => heatF true b0 b1 f0 f1 j0 j1 dr (rd l (i + x))) (fun i => heatF false b0 b1 f0 f1 j0 j1 dr (rd l (i + x))) lv x m0 (k + 1) = if heatF true b0 b1 f0 f1 j0 j1 dr (rd l (k + x)) < lv then scanF (fun i => heatF true b0 b1 f0 f1 j0 j1 dr (rd l (i + x))) (fun i => heatF false b0 b1 f0 f1 j0 j1 dr (rd l (i + x))) lv x m0 k else (imSet x (hullAt (imGet x (scanF (fun i => heatF true b0 b1 f0 f1 j0 j1 dr (rd l (i + x))) (fun i => heatF false b0 b1 f0 f1 j0 j1 dr (rd l (i + x))) lv x m0 k).1) k) (scanF (fun i => heatF true b0 b1 f0 f1 j0 j1 dr (rd l (i + x))) (fun i => heatF false b0 b1 f0 f1 j0 j1 dr (rd l (i + x))) lv x m0 k).1, decide (lv ≤ heatF false b0 b1 f0 f1 j0 j1 dr (rd l (k + x))))) := ⟨by
              simp only [scanF, hgo, Bool.false_eq_true, ↓reduceIte]⟩
            have HST : Aside0 ((scanF (fun i => heatF true b0 b1 f0 f1 j0 j1 dr (rd l (i + x))) (fun i => heatF false b0 b1 f0 f1 j0 j1 dr (rd l (i + x))) lv x m0 (k + 1)).2 = true → scanF (fun i => heatF true b0 b1 f0 f1 j0 j1 dr (rd l (i + x))) (fun i => heatF false b0 b1 f0 f1 j0 j1 dr (rd l (i + x))) lv x m0 sc.toNat = scanF (fun i => heatF true b0 b1 f0 f1 j0 j1 dr (rd l (i + x))) (fun i => heatF false b0 b1 f0 f1 j0 j1 dr (rd l (i + x))) lv x m0 (k + 1)) := ⟨fun hs => by
              have := scanF_stop hs (sc.toNat - (k + 1))
              rw [show k + 1 + (sc.toNat - (k + 1)) = sc.toNat from by omega] at this
              exact this⟩
            clear hc hrd
            have z9 := Z9.out
            unfold ductC at z9
            have d0 : wr.cell? ⟨G9, 0, none⟩ = some (.int .i64 b0) := (blk_cell z9 0).trans rfl
            have d1 : wr.cell? ⟨G9, 1, none⟩ = some (.int .i64 b1) := (blk_cell z9 1).trans rfl
            have d2 : wr.cell? ⟨G9, 2, none⟩ = some (.int .i64 f0) := (blk_cell z9 2).trans rfl
            have d3 : wr.cell? ⟨G9, 3, none⟩ = some (.int .i64 f1) := (blk_cell z9 3).trans rfl
            have d4 : wr.cell? ⟨G9, 4, none⟩ = some (.int .i64 j0) := (blk_cell z9 4).trans rfl
            have d5 : wr.cell? ⟨G9, 5, none⟩ = some (.int .i64 j1) := (blk_cell z9 5).trans rfl
            have d6 : wr.cell? ⟨G9, 6, none⟩ = some (.int .i64 g0) := (blk_cell z9 6).trans rfl
            have d7 : wr.cell? ⟨G9, 7, none⟩ = some (.int .i64 g1) := (blk_cell z9 7).trans rfl
            have d8 : wr.cell? ⟨G9, 8, none⟩ = some (.int .i64 dr) := (blk_cell z9 8).trans rfl
            have d9 : wr.cell? ⟨G9, 9, none⟩ = some (.slice A n c) := (blk_cell z9 9).trans rfl
            have d10 : wr.cell? ⟨G9, 10, none⟩ = some (.int .i64 sc) := (blk_cell z9 10).trans rfl
            clear z9
            gi_wp2_with fail
            refine ⟨trivial, CallsIn.inRound l' (callsIn_wide.2 ?_)⟩
            refine HC.out.mono ?_
            rintro e w2 ⟨rfl, hb⟩
            clear HC d0 d1 d2 d3 d4 d5 d6 d7 d8 d9 d10
            have y5 := blk_below Z5.out hb
            have y6 := blk_below Z6.out hb
            have y9 := blk_below Z9.out hb
            have y10 := blk_below Z10.out hb
            have y11 := blk_below Z11.out hb
            have yL := blk_below ZL.out hb
            have yM := ZM.out.below hb
            have hB2 := below_step HB.out hb
            have hK2 := HKF.out.trans ((kb_below hb).from N0)
            have lt11 := blk_lt y11
            have ltM := yM.lt
            clear hb Z5 Z6 Z9 Z10 Z11 ZL ZM HB HKF
            have HGO := Aside0.mk hgo
            clear hgo
            generalize heatF false b0 b1 f0 f1 j0 j1 dr (rd l (k + x)) = hp at *
            generalize heatF true b0 b1 f0 f1 j0 j1 dr (rd l (k + x)) = hq at *
            obtain ⟨s1, hE1⟩ : ∃ s, (scanF (fun i => heatF true b0 b1 f0 f1 j0 j1 dr (rd l (i + x))) (fun i => heatF false b0 b1 f0 f1 j0 j1 dr (rd l (i + x))) lv x m0 (k + 1)) = s := ⟨_, rfl⟩
            rw [hE1] at HSC1 HST
            have HE1 := Aside0.mk hE1
            clear hE1
            generalize (scanF (fun i => heatF true b0 b1 f0 f1 j0 j1 dr (rd l (i + x))) (fun i => heatF false b0 b1 f0 f1 j0 j1 dr (rd l (i + x))) lv x m0 k) = s0 at *
            obtain ⟨mk, bk⟩ := s0
            simp only at HGO HSC1 yM
            have a5 := blk_alloc y5 (.cells #[.int .i64 hp, .int .i64 hq] 23)
            have a6 := blk_alloc y6 (.cells #[.int .i64 hp, .int .i64 hq] 23)
            have a9 := blk_alloc y9 (.cells #[.int .i64 hp, .int .i64 hq] 23)
            have a10 := blk_alloc y10 (.cells #[.int .i64 hp, .int .i64 hq] 23)
            have a11 := blk_alloc y11 (.cells #[.int .i64 hp, .int .i64 hq] 23)
            have aL := blk_alloc yL (.cells #[.int .i64 hp, .int .i64 hq] 23)
            have aS := blk_new w2 (.cells #[.int .i64 hp, .int .i64 hq] 23)
            have aM := yM.alloc (.cells #[.int .i64 hp, .int .i64 hq] 23)
            have hB3 := below_alloc hB2 (.cells #[.int .i64 hp, .int .i64 hq] 23)
            have hK3 := hK2.trans ((KeepsOthers.alloc w2 (.cells #[.int .i64 hp, .int .i64 hq] 23)).from N0)
            have lt3 : w2.heap.size < (w2.alloc (.cells #[.int .i64 hp, .int .i64 hq] 23)).heap.size := by simp
            have nS11 : G11 ≠ w2.heap.size := by omega
            have nSM : w2.heap.size ≠ GM := by omega
            have c5 : (w2.alloc (.cells #[.int .i64 hp, .int .i64 hq] 23)).cell? ⟨G5, 0, none⟩ = some (.int .i64 lv) := (blk_cell a5 0).trans rfl
            have c10 : (w2.alloc (.cells #[.int .i64 hp, .int .i64 hq] 23)).cell? ⟨G10, 0, none⟩ = some (.map (some GM)) := (blk_cell a10 0).trans rfl
            have s_0 : (w2.alloc (.cells #[.int .i64 hp, .int .i64 hq] 23)).cell? ⟨w2.heap.size, 0, none⟩ = some (.int .i64 hp) := (blk_cell aS 0).trans rfl
            have s_1 : (w2.alloc (.cells #[.int .i64 hp, .int .i64 hq] 23)).cell? ⟨w2.heap.size, 1, none⟩ = some (.int .i64 hq) := (blk_cell aS 1).trans rfl
            clear y5 y6 y9 y10 y11 yL yM hB2 hK2
            have A5 := Aside0.mk a5
            have A6 := Aside0.mk a6
            have A9 := Aside0.mk a9
            have A10 := Aside0.mk a10
            have A11 := Aside0.mk a11
            have AL := Aside0.mk aL
            have AS := Aside0.mk aS
            have AM := Aside0.mk aM
            have HB3 := Aside0.mk hB3
            have HK3 := Aside0.mk hK3
            have LT3 := Aside0.mk lt3
            clear a5 a6 a9 a10 a11 aL aS aM hB3 hK3 lt3
            by_cases hcl : hq < lv
            · have HS1 := Aside0.mk (HSC1.out.trans (if_pos hcl))
              clear HSC1
              gi_wp2
              go_roundw
              case rel =>
                refine ⟨k + 1, by go_num, by omega, ?_, HB3, HK3, A5, A6, A9, A10, AL, A11, ⟨?_⟩⟩
                · rw [HE1.out, HS1.out]; exact HGO.out
                · rw [HE1.out, HS1.out]; exact AM.out
              case measure => simp [intOf]; omega
            · have HS1 := Aside0.mk (HSC1.out.trans (if_neg hcl))
              clear HSC1
              have hlk := AM.out.look (P := Tryd.prog) Tryd.underlying55 Tryd.underlying3 (zeroS _) x
              rw [show mk.map kvS = mk.map (fun p => (p.1, spanV p.2)) from rfl, imGet_map] at hlk
              cases hm : imGet x mk with
              | none =>
                rw [hm] at hlk
                simp only [Option.map_none, Option.getD_none, Option.isSome_none] at hlk
                rw [hm] at HS1
                have HM4 := AM.out.alloc (.cells #[.int .i64 0, .int .i64 0] 23)
                obtain ⟨o, hst, hM5⟩ := HM4.store (P := Tryd.prog) Tryd.underlying55 Tryd.underlying3 x (spanV ((k : Int), (k : Int)))
                rw [show mk.map kvS = mk.map (fun p => (p.1, spanV p.2)) from rfl, imSet_map] at hM5
                have HM5 := Aside0.mk hM5
                clear hM5 HM4
                have hfar : ∀ j, j ≠ GM → (((w2.alloc (.cells #[.int .i64 hp, .int .i64 hq] 23)).alloc (.cells #[.int .i64 0, .int .i64 0] 23)).putObj GM o).heap[j]? = ((w2.alloc (.cells #[.int .i64 hp, .int .i64 hq] 23)).alloc (.cells #[.int .i64 0, .int .i64 0] 23)).heap[j]? := fun j hj => World.putObj_heap_other hj
                have e5 := (hfar G5 (Ne.symm nM5)).trans (blk_alloc A5.out (.cells #[.int .i64 0, .int .i64 0] 23))
                have e6 := (hfar G6 (Ne.symm nM6)).trans (blk_alloc A6.out (.cells #[.int .i64 0, .int .i64 0] 23))
                have e9 := (hfar G9 (Ne.symm nM9)).trans (blk_alloc A9.out (.cells #[.int .i64 0, .int .i64 0] 23))
                have e10 := (hfar G10 (Ne.symm nM10)).trans (blk_alloc A10.out (.cells #[.int .i64 0, .int .i64 0] 23))
                have e11 := (hfar G11 n1_M).trans (blk_alloc A11.out (.cells #[.int .i64 0, .int .i64 0] 23))
                have eL := (hfar GL (Ne.symm nML)).trans (blk_alloc AL.out (.cells #[.int .i64 0, .int .i64 0] 23))
                have eS := (hfar w2.heap.size nSM).trans (blk_alloc AS.out (.cells #[.int .i64 0, .int .i64 0] 23))
                have hB5 := below_put (o := o) (below_alloc HB3.out (.cells #[.int .i64 0, .int .i64 0] 23)) hleM
                have hK5 := HK3.out.trans (((KeepsOthers.alloc (w2.alloc (.cells #[.int .i64 hp, .int .i64 hq] 23)) (.cells #[.int .i64 0, .int .i64 0] 23)).from N0).trans (keepsFrom_put _ GM o (by have := hlM; omega)))
                have E6 := Aside0.mk e6
                have E9 := Aside0.mk e9
                have E10 := Aside0.mk e10
                have EL := Aside0.mk eL
                have HB5 := Aside0.mk hB5
                have HK5 := Aside0.mk hK5
                have c10b := (blk_cell (blk_alloc A10.out (.cells #[.int .i64 0, .int .i64 0] 23)) 0).trans rfl
                have c5' := (blk_cell e5 0).trans rfl
                have s0' := (blk_cell eS 0).trans rfl
                have c11 := (blk_cell e11 0).trans rfl
                have f11 := blk_frozen e11 0
                have E5 := Aside0.mk e5
                have E11 := Aside0.mk e11
                clear e5 e6 e9 e10 e11 eL eS hB5 hK5 hfar
                unfold spanV at hst
                by_cases hsu : lv ≤ hp
                · have hlag : lagsF b0 b1 f0 f1 j0 j1 g0 g1 dr l lv sc ((pre ++ [(⟨x, hx0, hx1⟩ : LagT g0 g1)]).map (·.1)) = (imSet x ((k : Int), (k : Int)) mk, su + 1) := by
                    have h1 : s1 = (imSet x ((k : Int), (k : Int)) mk, true) := by rw [HS1.out]; simp only [hsu, decide_true]; rfl
                    have h2 := HST.out (by rw [h1])
                    rw [HAP.out, HSN.out]
                    simp only [h2, h1, ↓reduceIte]
                  have HLG := Aside0.mk hlag
                  clear hlag HS1 HST HE1 HSN HGO
                  gi_wp2
                  change KeepsFrom W0.heap.size W _ ∧ Kp8 GL W _ ∧ (((_ ∧ _ ∧ _ ∧ _ ∧ _ ∧ _) ∧ _) ∧ _)
                  rw [HLG.out]
                  refine ⟨?_, (blk_far EL.out (Ne.symm n1_L) _).trans XL.out.symm, ⟨⟨blk_far E5.out (Ne.symm n1_5) _, blk_far E6.out (Ne.symm n1_6) _, blk_far E9.out (Ne.symm n1_9) _, blk_far E10.out (Ne.symm n1_10) _, blk_far EL.out (Ne.symm n1_L) _, blk_put E11.out 0 _ rfl⟩, HM5.out.setCell (Ne.symm n1_M) _⟩, below_set HB5.out hle1⟩
                  rw [← HN0.out]
                  exact HK5.out.trans ((KeepsOthers.setCell _ _ _).from N0)
                · clear HST HSN
                  gi_wp2
                  go_roundw
                  case rel =>
                    refine ⟨k + 1, by go_num, by omega, ?_, HB5, HK5, E5, E6, E9, E10, EL, E11, ⟨?_⟩⟩
                    · rw [HE1.out, HS1.out]; exact decide_eq_false (by omega)
                    · rw [HE1.out, HS1.out]; exact HM5.out
                  case measure => simp [intOf]; omega
              | some a =>
                obtain ⟨a0, a1⟩ := a
                rw [hm] at hlk
                simp only [Option.map_some, Option.getD_some, Option.isSome_some] at hlk
                rw [hm] at HS1
                unfold spanV at hlk
                simp only at hlk
                obtain ⟨w4, hw4⟩ : ∃ w4, (w2.alloc (.cells #[.int .i64 hp, .int .i64 hq] 23)).alloc (.cells #[.int .i64 a0, .int .i64 a1] 23) = w4 := ⟨_, rfl⟩
                have HM4 := Aside0.mk (hw4 ▸ AM.out.alloc (.cells #[.int .i64 a0, .int .i64 a1] 23) : IMap w4 GM (mk.map kvS))
                have e5 : w4.heap[G5]? = _ := hw4 ▸ blk_alloc A5.out (.cells #[.int .i64 a0, .int .i64 a1] 23)
                have e6 : w4.heap[G6]? = _ := hw4 ▸ blk_alloc A6.out (.cells #[.int .i64 a0, .int .i64 a1] 23)
                have e9 : w4.heap[G9]? = _ := hw4 ▸ blk_alloc A9.out (.cells #[.int .i64 a0, .int .i64 a1] 23)
                have e10 : w4.heap[G10]? = _ := hw4 ▸ blk_alloc A10.out (.cells #[.int .i64 a0, .int .i64 a1] 23)
                have e11 : w4.heap[G11]? = _ := hw4 ▸ blk_alloc A11.out (.cells #[.int .i64 a0, .int .i64 a1] 23)
                have eL : w4.heap[GL]? = _ := hw4 ▸ blk_alloc AL.out (.cells #[.int .i64 a0, .int .i64 a1] 23)
                have eS : w4.heap[w2.heap.size]? = _ := hw4 ▸ blk_alloc AS.out (.cells #[.int .i64 a0, .int .i64 a1] 23)
                have eY : w4.heap[w2.heap.size + 1]? = some (.cells #[.int .i64 a0, .int .i64 a1] 23) := hw4 ▸ blk_new_at _ _ (by simp)
                have HB4 := Aside0.mk (hw4 ▸ below_alloc HB3.out (.cells #[.int .i64 a0, .int .i64 a1] 23) : Below w.heap.size w w4)
                have HK4 := Aside0.mk (hw4 ▸ HK3.out.trans ((KeepsOthers.alloc (w2.alloc (.cells #[.int .i64 hp, .int .i64 hq] 23)) (.cells #[.int .i64 a0, .int .i64 a1] 23)).from N0) : KeepsFrom N0 W w4)
                have E5 := Aside0.mk e5
                have E6 := Aside0.mk e6
                have E9 := Aside0.mk e9
                have E10 := Aside0.mk e10
                have E11 := Aside0.mk e11
                have EL := Aside0.mk eL
                have ES := Aside0.mk eS
                have EY := Aside0.mk eY
                have HW4 := Aside0.mk hw4
                have t10 : w4.drew.cell? ⟨G10, 0, none⟩ = some (.map (some GM)) := (blk_cell e10 0).trans rfl
                have u0 : w4.drew.cell? ⟨w2.heap.size + 1, 0, none⟩ = some (.int .i64 a0) := (blk_cell eY 0).trans rfl
                have u1 : w4.drew.cell? ⟨w2.heap.size + 1, 1, none⟩ = some (.int .i64 a1) := (blk_cell eY 1).trans rfl
                clear e5 e6 e9 e10 e11 eL eS eY hw4
                gi_wp2
                rw [HW4.out]
                refine wpIn_region_held (fun w' => w'.cell? ⟨G10, 0, none⟩ = some (.map (some GM)) ∧ w'.cell? ⟨w2.heap.size + 1, 0, none⟩ = some (.int .i64 a0) ∧ w'.cell? ⟨w2.heap.size + 1, 1, none⟩ = some (.int .i64 a1)) hmx (by kernel_rfl) ⟨t10, u0, u1⟩ (fun hHeld => ?_)
                refine take_v 0 (some 57) (.map (some GM)) rfl rfl (by kernel_rfl) (by kernel_rfl) (by kernel_rfl) rfl hHeld (fun w hSw => ?_) ?_
                · obtain ⟨hs1, hs2, hs3⟩ := hSw
                  clear hlk t10 u0 u1
                  go_simp
                simp only [Act.put, List.setIfInBounds_toArray, List.set_cons_zero, List.set_cons_succ]
                refine take_v 1 (some 58) (.int .i64 x) rfl rfl (by kernel_rfl) (by kernel_rfl) (by kernel_rfl) rfl hHeld (fun w hSw => ?_) ?_
                · obtain ⟨hs1, hs2, hs3⟩ := hSw
                  clear hlk t10 u0 u1
                  go_simp
                simp only [Act.put, List.setIfInBounds_toArray, List.set_cons_zero, List.set_cons_succ]
                refine take_v 2 (some 59) (.agg #[.int .i64 a0, .int .i64 a1]) rfl rfl (by kernel_rfl) (by kernel_rfl) (by kernel_rfl) rfl hHeld (fun w hSw => ?_) ?_
                · obtain ⟨hs1, hs2, hs3⟩ := hSw
                  clear hlk t10 u0 u1
                  go_simp
                simp only [Act.put, List.setIfInBounds_toArray, List.set_cons_zero, List.set_cons_succ]
                refine take_v 3 (some 60) (.int .i64 (k : Int)) rfl rfl (by kernel_rfl) (by kernel_rfl) (by kernel_rfl) rfl hHeld (fun w hSw => ?_) ?_
                · obtain ⟨hs1, hs2, hs3⟩ := hSw
                  clear hlk t10 u0 u1
                  go_simp
                simp only [Act.put, List.setIfInBounds_toArray, List.set_cons_zero, List.set_cons_succ]
                refine take_v 4 (some 61) (.int .i64 (k : Int)) rfl rfl (by kernel_rfl) (by kernel_rfl) (by kernel_rfl) rfl hHeld (fun w hSw => ?_) ?_
                · obtain ⟨hs1, hs2, hs3⟩ := hSw
                  clear hlk t10 u0 u1
                  go_simp
                simp only [Act.put, List.setIfInBounds_toArray, List.set_cons_zero, List.set_cons_succ]
                refine take_v 5 (some 62) (.agg #[.int .i64 (k : Int), .int .i64 (k : Int)]) rfl rfl (by kernel_rfl) (by kernel_rfl) (by kernel_rfl) rfl hHeld (fun w hSw => ?_) ?_
                · obtain ⟨hs1, hs2, hs3⟩ := hSw
                  clear hlk t10 u0 u1
                  go_simp
                simp only [Act.put, List.setIfInBounds_toArray, List.set_cons_zero, List.set_cons_succ]
                refine wpAnyH_ready (rs := [6]) (by kernel_rfl) (by simp) ?_
                refine AllReadyH.cons rfl (fun K hK => ?_) AllReadyH.nil
                go_simp
                refine (both_calls (a0, a1) ((k : Int), (k : Int)) w4.drew).mono ?_
                rintro e w6 ⟨rfl, hb⟩
                obtain ⟨hv, hhv⟩ : ∃ r, hull (a0, a1) ((k : Int), (k : Int)) = r := ⟨_, rfl⟩
                rw [hhv]
                have HHV := Aside0.mk (show hullAt (some (a0, a1)) (k : Int) = hv from hhv)
                clear hhv
                obtain ⟨hv0, hv1⟩ := hv
                have m5 := blk_below (blk_drew E5.out) hb
                have m6 := blk_below (blk_drew E6.out) hb
                have m9 := blk_below (blk_drew E9.out) hb
                have m10 := blk_below (blk_drew E10.out) hb
                have m11 := blk_below (blk_drew E11.out) hb
                have mL := blk_below (blk_drew EL.out) hb
                have mS := blk_below (blk_drew ES.out) hb
                have mY := blk_below (blk_drew EY.out) hb
                have mM := HM4.out.drew.below hb
                have hB6 := below_step (below_drew HB4.out) hb
                have hK6 := HK4.out.trans (((KeepsOthers.drew w4).from N0).trans ((kb_below hb).from N0))
                clear hb t10 u0 u1 hHeld
                obtain ⟨o, hst, hM5⟩ := mM.store (P := Tryd.prog) Tryd.underlying55 Tryd.underlying3 x (spanV (hv0, hv1))
                rw [show mk.map kvS = mk.map (fun p => (p.1, spanV p.2)) from rfl, imSet_map] at hM5
                have HM5 := Aside0.mk hM5
                clear hM5 mM
                have hfar : ∀ j, j ≠ GM → (w6.putObj GM o).heap[j]? = w6.heap[j]? := fun j hj => World.putObj_heap_other hj
                have nYM : w2.heap.size + 1 ≠ GM := by omega
                have e5 := (hfar G5 (Ne.symm nM5)).trans m5
                have e6 := (hfar G6 (Ne.symm nM6)).trans m6
                have e9 := (hfar G9 (Ne.symm nM9)).trans m9
                have e10 := (hfar G10 (Ne.symm nM10)).trans m10
                have e11 := (hfar G11 n1_M).trans m11
                have eL := (hfar GL (Ne.symm nML)).trans mL
                have eS := (hfar w2.heap.size nSM).trans mS
                have eY := (hfar (w2.heap.size + 1) nYM).trans mY
                have hB5 := below_put (o := o) hB6 hleM
                have hK5 := hK6.trans (keepsFrom_put _ GM o (by have := hlM; omega))
                clear E5 E6 E9 E10 E11 EL ES EY HB4 HK4 HM4
                have E6 := Aside0.mk e6
                have E9 := Aside0.mk e9
                have E10 := Aside0.mk e10
                have EL := Aside0.mk eL
                have HB5 := Aside0.mk hB5
                have HK5 := Aside0.mk hK5
                have c5' := (blk_cell e5 0).trans rfl
                have s0' := (blk_cell eS 0).trans rfl
                have c11 := (blk_cell e11 0).trans rfl
                have f11 := blk_frozen e11 0
                have E5 := Aside0.mk e5
                have E11 := Aside0.mk e11
                have hS6 : w6.cell? ⟨G10, 0, none⟩ = some (.map (some GM)) ∧ w6.cell? ⟨w2.heap.size + 1, 0, none⟩ = some (.int .i64 a0) ∧ w6.cell? ⟨w2.heap.size + 1, 1, none⟩ = some (.int .i64 a1) := ⟨(blk_cell m10 0).trans rfl, (blk_cell mY 0).trans rfl, (blk_cell mY 1).trans rfl⟩
                have hS7 : (w6.putObj GM o).cell? ⟨G10, 0, none⟩ = some (.map (some GM)) ∧ (w6.putObj GM o).cell? ⟨w2.heap.size + 1, 0, none⟩ = some (.int .i64 a0) ∧ (w6.putObj GM o).cell? ⟨w2.heap.size + 1, 1, none⟩ = some (.int .i64 a1) := ⟨(blk_cell e10 0).trans rfl, (blk_cell eY 0).trans rfl, (blk_cell eY 1).trans rfl⟩
                clear e5 e6 e9 e10 e11 eL eS eY hB5 hK5 hfar m5 m6 m9 m10 m11 mL mS mY hB6 hK6
                unfold spanV at hst ⊢
                refine hK.out _ _ hS6 (fun _ => ?_)
                clear hK K
                refine wpAnyH_ready (rs := [7]) (by kernel_rfl) (by simp) ?_
                refine AllReadyH.cons rfl (fun K hK => ?_) AllReadyH.nil
                go_simp
                refine hK.out _ _ hS7 (fun _ => ?_)
                clear hK K hS6 hS7
                refine wpAnyH_done (by kernel_rfl) ?_ _
                simp only [OnlyN]
                by_cases hsu : lv ≤ hp
                · have hlag : lagsF b0 b1 f0 f1 j0 j1 g0 g1 dr l lv sc ((pre ++ [(⟨x, hx0, hx1⟩ : LagT g0 g1)]).map (·.1)) = (imSet x (hv0, hv1) mk, su + 1) := by
                    have h1 : s1 = (imSet x (hv0, hv1) mk, true) := by rw [HS1.out, HHV.out]; simp only [hsu, decide_true]
                    have h2 := HST.out (by rw [h1])
                    rw [HAP.out, HSN.out]
                    simp only [h2, h1, ↓reduceIte]
                  have HLG := Aside0.mk hlag
                  clear hlag HS1 HST HE1 HSN HGO
                  gi_wp2
                  change KeepsFrom W0.heap.size W _ ∧ Kp8 GL W _ ∧ (((_ ∧ _ ∧ _ ∧ _ ∧ _ ∧ _) ∧ _) ∧ _)
                  rw [HLG.out]
                  refine ⟨?_, (blk_far EL.out (Ne.symm n1_L) _).trans XL.out.symm, ⟨⟨blk_far E5.out (Ne.symm n1_5) _, blk_far E6.out (Ne.symm n1_6) _, blk_far E9.out (Ne.symm n1_9) _, blk_far E10.out (Ne.symm n1_10) _, blk_far EL.out (Ne.symm n1_L) _, blk_put E11.out 0 _ rfl⟩, HM5.out.setCell (Ne.symm n1_M) _⟩, below_set HB5.out hle1⟩
                  rw [← HN0.out]
                  exact HK5.out.trans ((KeepsOthers.setCell _ _ _).from N0)
                · clear HST HSN
                  gi_wp2
                  go_roundw
                  case rel =>
                    refine ⟨k + 1, by go_num, by omega, ?_, HB5, HK5, E5, E6, E9, E10, EL, E11, ⟨?_⟩⟩
                    · rw [HE1.out, HS1.out]; exact decide_eq_false (by omega)
                    · rw [HE1.out, HS1.out, HHV.out]; exact HM5.out
                  case measure => simp [intOf]; omega
          · have hkk : (k : Int) = sc := by omega
            have HKE : Aside0 (k = sc.toNat) := ⟨by omega⟩
            clear hkk hk
            have hlag : lagsF b0 b1 f0 f1 j0 j1 g0 g1 dr l lv sc ((pre ++ [(⟨x, hx0, hx1⟩ : LagT g0 g1)]).map (·.1)) = ((scanF (fun i => heatF true b0 b1 f0 f1 j0 j1 dr (rd l (i + x))) (fun i => heatF false b0 b1 f0 f1 j0 j1 dr (rd l (i + x))) lv x m0 k).1, su) := by
              rw [HAP.out, HSN.out, ← HKE.out]
              simp only [hgo, Bool.false_eq_true, ↓reduceIte]
            have HLG := Aside0.mk hlag
            clear hlag HSN hgo
            gi_wp2
            change KeepsFrom W0.heap.size W _ ∧ Kp8 GL W _ ∧ (((_ ∧ _ ∧ _ ∧ _ ∧ _ ∧ _) ∧ _) ∧ _)
            rw [HLG.out]
            refine ⟨?_, ZL.out.trans XL.out.symm, ⟨⟨Z5.out, Z6.out, Z9.out, Z10.out, ZL.out, Z11.out⟩, ZM.out⟩, HB.out⟩
            rw [← HN0.out]
            exact HKF.out
      case done =>
        clear x5 x6 x9 xM x10 x11 xL hst hbW0
        rintro D ys W hD hS ⟨⟨⟨x5, x6, x9, x10, xL, x11⟩, xM⟩, hB⟩ hK
        have hf := HF.out
        clear HF
        rw [HLN.out, HSC.out] at hf
        rw [hS] at x11 xM
        have hlen := lagsF_len b0 b1 f0 f1 j0 j1 g0 g1 dr l lv sc (upFrom g0 (g1 - g0 + 1).toNat) ([], 0)
        have hul : (upFrom g0 (g1 - g0 + 1).toNat).length ≤ 31 := by simp [upFrom]; omega
        unfold lagsF at hf x11 xM
        generalize (upFrom g0 (g1 - g0 + 1).toNat).foldl (lagF b0 b1 f0 f1 j0 j1 g0 g1 dr l lv sc) ([], 0) = st at *
        obtain ⟨L, su⟩ := st
        simp only [List.length_nil, Nat.zero_add] at hlen
        simp only at hf x11 xM
        have hlL' : L.length ≤ 31 := by omega
        clear hlen hul hS
        have HF := Aside0.mk hf
        clear hf
        have nD6 : D ≠ G6 := fun e => by subst e; rw [hK] at x6; cases x6
        obtain ⟨oR, hrg, hIR⟩ := xM.range (P := Tryd.prog) Tryd.underlying55
        have c10 : W.cell? ⟨G10, 0, none⟩ = some (.map (some GM)) := (blk_cell x10 0).trans rfl
        have hDW := blk_lt hK
        have hNW : N0 ≤ W.heap.size := by have := HN0.out; omega
        obtain ⟨W1, hW1⟩ : ∃ W1, W.alloc oR = W1 := ⟨_, rfl⟩
        have z6 := hW1 ▸ blk_alloc x6 oR
        have z9 := hW1 ▸ blk_alloc x9 oR
        have z11 := hW1 ▸ blk_alloc x11 oR
        have zK := hW1 ▸ blk_alloc hK oR
        rw [hW1] at hrg hIR
        have hB1 : Below w.heap.size w W1 := hW1 ▸ below_alloc hB oR
        have hsz1 : W1.heap.size = W.heap.size + 1 := by rw [← hW1]; simp
        have HW1 := Aside0.mk hW1
        clear hW1
        have Z6 := Aside0.mk z6
        have Z9 := Aside0.mk z9
        have Z11 := Aside0.mk z11
        have ZK := Aside0.mk zK
        have HB1 := Aside0.mk hB1
        have HIR := Aside0.mk hIR
        have HD := Aside0.mk hD
        clear x5 x6 x9 x10 x11 xL xM hB hK z6 z9 z11 zK hB1 hIR hD
        gi_wp2
        have nR6 : W.heap.size ≠ G6 := by omega
        have nR9 : W.heap.size ≠ G9 := by omega
        have nR11 : W.heap.size ≠ G11 := by omega
        have nRD : W.heap.size ≠ D := by omega
        have hleR : w.heap.size ≤ W.heap.size := by omega
        generalize W.heap.size = GR at *
        obtain ⟨N1, hN1⟩ : ∃ N1, N1 = W1.heap.size := ⟨_, rfl⟩
        have hbn : w.heap.size ≤ N1 := by omega
        have hl6' := blk_lt Z6.out
        have hl9' := blk_lt Z9.out
        have hl11' := blk_lt Z11.out
        have hlD' := blk_lt ZK.out
        have hlR' := HIR.out.lt.1
        rw [← hN1] at hl6' hl9' hl11' hlD' hlR' hsz1
        have HN1 := Aside0.mk hN1
        clear hN1 c10 hrg
        gi_loopg [17] L.length (fun gg s17 wr => ∃ (all rem : List (Int × (Int × Int))) (A' : Option Addr) (c' : Nat), s17 = .slice A' all.length c' ∧ rem.length ≤ gg ∧ all.length + rem.length ≤ 31 ∧ N1 ≤ wr.heap.size
            ∧ Aside0 (IRange wr GR GM (L.map kvS) (rem.map kvS)) ∧ Aside0 (wr.ownsRow N1 23 2 (.slice A' all.length c') all.length (flatSp (all.map (·.2)))) ∧ Aside0 (hullL (all.map (·.2) ++ rem.map (·.2)) = hullL (L.map (·.2))) ∧ Aside0 (Below w.heap.size w wr)
            ∧ Aside0 (wr.heap[G6]? = some (.cells #[.int .i64 0, .int .i64 0] 23)) ∧ Aside0 (wr.heap[G9]? = some (.cells (ductC b0 b1 f0 f1 j0 j1 g0 g1 dr A n c sc) 52)) ∧ Aside0 (wr.heap[G11]? = some (.cells #[.int .i64 su] 3)) ∧ Aside0 (wr.heap[D]? = some (.deferred (some []))))
        case atStart => exact ⟨[], L, none, 0, rfl, Nat.le_refl _, by simpa using hlL', by have := HN1.out; omega, HIR, ⟨own_nil _ _ _ _⟩, ⟨rfl⟩, HB1, Z6, Z9, Z11, ZK⟩
        case round =>
          clear HIR HB1 Z6 Z9 Z11 ZK
          obtain ⟨all, rem, A', c', rfl, hrg, hal, hNr, HIR, HOW, HHL, HB, Z6, Z9, Z11, ZK⟩ := hrel
          rcases HIR.out.next (P := Tryd.prog) 0 with ⟨hrem, hnx⟩ | ⟨A1, pv, B1, o1, wd, hrem, hwd, hnx, hIR2, hen⟩
          · obtain rfl : rem = [] := List.map_eq_nil_iff.1 hrem
            have hhl := HHL.out
            rw [List.map_nil, List.append_nil] at hhl
            have hf := HF.out
            rw [← hhl] at hf
            clear HHL HF hhl HIR hal hrg hrem
            cases all with
            | nil =>
              simp only [List.map_nil, hullL, List.foldr_nil, Option.some.injEq, Prod.mk.injEq] at hf
              obtain ⟨rfl, rfl, rfl⟩ := hf
              have d3_ := (blk_cell Z6.out 0).trans rfl
              have d4_ := (blk_cell Z6.out 1).trans rfl
              have f3_ := blk_frozen Z6.out 0
              have f4_ := blk_frozen Z6.out 1
              clear HOW
              gi_wp2
              have hK' : ((wr.setCell ⟨G6, 0, none⟩ (.int .i64 0)).setCell ⟨G6, 1, none⟩ (.int .i64 0)).heap[D]? = some (.deferred (some [])) :=
                (Below.heap_setCell _ ⟨G6, 1, none⟩ _ _ nD6).trans ((Below.heap_setCell wr ⟨G6, 0, none⟩ _ _ nD6).trans ZK.out)
              have h6 : ((wr.setCell ⟨G6, 0, none⟩ (.int .i64 0)).setCell ⟨G6, 1, none⟩ (.int .i64 0)).heap[G6]? = some (.cells #[.int .i64 0, .int .i64 0] 23) := blk_put (cs := #[.int .i64 0, .int .i64 0]) (blk_put (cs := #[.int .i64 0, .int .i64 0]) Z6.out 0 _ rfl) 1 _ rfl
              have hBB := below_set (below_set HB.out hle (v := .int .i64 0) (j := 0)) hle (v := .int .i64 0) (j := 1)
              refine ⟨by simp, .inl ⟨_, _, rfl, run_takeDeferred hK', ?_⟩⟩
              refine ⟨_, results_ctt rfl _ _ G6 23 _ _ (.struct _) rfl ((World.putObj_heap_other (Ne.symm nD6)).trans h6) rfl rfl rfl, rfl, ?_⟩
              exact hBB.trans (belowK_b (w := w) (Nat.le_refl _) _ D _ _ (by have := HD.out; have := HN0.out; omega) hK' rfl rfl)
            | cons y r =>
              rw [List.map_cons, hullL_cons] at hf
              simp only [Option.some.injEq, Prod.mk.injEq] at hf
              obtain ⟨hp, hq, hkn⟩ := hf
              obtain ⟨Aw, cw, hvw, hcw, hrw⟩ := own_spans (x := y.2) (l := r.map (·.2)) (by simpa using HOW.out)
              simp only [Value.slice.injEq] at hvw
              obtain ⟨rfl, -, rfl⟩ := hvw
              have hcl := widest_calls A' c' y.2 (r.map (·.2)) hcw wr hrw
              rw [show (y.2 :: r.map (·.2)).length = r.length + 1 from by simp] at hcl
              generalize (r.map (·.2)).foldl hull y.2 = hv at *
              obtain ⟨hv0, hv1⟩ := hv
              simp only at hp hq
              subst hp
              subst hq
              unfold spanV at hcl
              have HCL := Aside0.mk hcl
              have hw1_ : IntKind.i64.wrap (g1 - g0) = g1 - g0 := by rw [IntKind.wrap_i64]; omega
              have hw2_ : IntKind.i64.wrap (g1 - g0 + 1) = g1 - g0 + 1 := by rw [IntKind.wrap_i64]; omega
              have z9 := Z9.out
              unfold ductC at z9
              have d6 : wr.cell? ⟨G9, 6, none⟩ = some (.int .i64 g0) := (blk_cell z9 6).trans rfl
              have d7 : wr.cell? ⟨G9, 7, none⟩ = some (.int .i64 g1) := (blk_cell z9 7).trans rfl
              have d11 : wr.cell? ⟨G11, 0, none⟩ = some (.int .i64 su) := (blk_cell Z11.out 0).trans rfl
              have hln : ¬ ((r.length + 1 : Nat) : Int) = 0 := by omega
              clear hcl hrw hcw z9 HOW hNr
              rw [List.length_cons]
              by_cases hsu : su = g1 - g0 + 1
              · rw [if_pos hsu] at hkn
                subst hkn
                gi_wp2_with fail
                refine ⟨trivial, callsIn_wide.2 ?_⟩
                refine HCL.out.mono ?_
                rintro e w2 ⟨rfl, hb⟩
                have y6 := blk_below Z6.out hb
                have yK := blk_below ZK.out hb
                have HB2 := Aside0.mk (below_step HB.out hb)
                have e0 := (blk_cell y6 0).trans rfl
                have e1 := (blk_cell y6 1).trans rfl
                have i0 := blk_frozen y6 0
                have i1 := blk_frozen y6 1
                have Y6 := Aside0.mk y6
                have YK := Aside0.mk yK
                clear y6 yK hb HCL
                gi_wp2
                have hK' : ((w2.setCell ⟨G6, 0, none⟩ (.int .i64 hv0)).setCell ⟨G6, 1, none⟩ (.int .i64 hv1)).heap[D]? = some (.deferred (some [])) :=
                  (Below.heap_setCell _ ⟨G6, 1, none⟩ _ _ nD6).trans ((Below.heap_setCell w2 ⟨G6, 0, none⟩ _ _ nD6).trans YK.out)
                have h6 : ((w2.setCell ⟨G6, 0, none⟩ (.int .i64 hv0)).setCell ⟨G6, 1, none⟩ (.int .i64 hv1)).heap[G6]? = some (.cells #[.int .i64 hv0, .int .i64 hv1] 23) := blk_put (cs := #[.int .i64 hv0, .int .i64 0]) (blk_put (cs := #[.int .i64 0, .int .i64 0]) Y6.out 0 _ rfl) 1 _ rfl
                have hBB := below_set (below_set HB2.out hle (v := .int .i64 hv0) (j := 0)) hle (v := .int .i64 hv1) (j := 1)
                refine ⟨by simp, .inl ⟨_, _, rfl, run_takeDeferred hK', ?_⟩⟩
                refine ⟨_, results_ctt rfl _ _ G6 23 _ _ (.struct _) rfl ((World.putObj_heap_other (Ne.symm nD6)).trans h6) rfl rfl rfl, rfl, ?_⟩
                exact hBB.trans (belowK_b (w := w) (Nat.le_refl _) _ D _ _ (by have := HD.out; have := HN0.out; omega) hK' rfl rfl)
              · rw [if_neg hsu] at hkn
                subst hkn
                gi_wp2_with fail
                refine ⟨trivial, callsIn_wide.2 ?_⟩
                refine HCL.out.mono ?_
                rintro e w2 ⟨rfl, hb⟩
                have y6 := blk_below Z6.out hb
                have yK := blk_below ZK.out hb
                have HB2 := Aside0.mk (below_step HB.out hb)
                have e0 := (blk_cell y6 0).trans rfl
                have e1 := (blk_cell y6 1).trans rfl
                have i0 := blk_frozen y6 0
                have i1 := blk_frozen y6 1
                have Y6 := Aside0.mk y6
                have YK := Aside0.mk yK
                clear y6 yK hb HCL
                gi_wp2
                have hK' : ((w2.setCell ⟨G6, 0, none⟩ (.int .i64 hv0)).setCell ⟨G6, 1, none⟩ (.int .i64 hv1)).heap[D]? = some (.deferred (some [])) :=
                  (Below.heap_setCell _ ⟨G6, 1, none⟩ _ _ nD6).trans ((Below.heap_setCell w2 ⟨G6, 0, none⟩ _ _ nD6).trans YK.out)
                have h6 : ((w2.setCell ⟨G6, 0, none⟩ (.int .i64 hv0)).setCell ⟨G6, 1, none⟩ (.int .i64 hv1)).heap[G6]? = some (.cells #[.int .i64 hv0, .int .i64 hv1] 23) := blk_put (cs := #[.int .i64 hv0, .int .i64 0]) (blk_put (cs := #[.int .i64 0, .int .i64 0]) Y6.out 0 _ rfl) 1 _ rfl
                have hBB := below_set (below_set HB2.out hle (v := .int .i64 hv0) (j := 0)) hle (v := .int .i64 hv1) (j := 1)
                refine ⟨by simp, .inl ⟨_, _, rfl, run_takeDeferred hK', ?_⟩⟩
                refine ⟨_, results_ctt rfl _ _ G6 23 _ _ (.struct _) rfl ((World.putObj_heap_other (Ne.symm nD6)).trans h6) rfl rfl rfl, rfl, ?_⟩
                exact hBB.trans (belowK_b (w := w) (Nat.le_refl _) _ D _ _ (by have := HD.out; have := HN0.out; omega) hK' rfl rfl)
          · obtain ⟨A2, R2, hrem1, hA2, hR2⟩ := List.map_eq_append_iff.1 hrem
            obtain ⟨pp, B2, rfl, hpp, hB2⟩ := List.map_eq_cons_iff.1 hR2
            subst hrem1
            rw [← hA2, ← hB2, ← List.map_append] at hIR2
            obtain ⟨px, p0, p1⟩ := pp
            rw [← hpp] at hnx hen
            unfold kvS spanV at hnx hen
            simp only at hnx hen
            have HHL2 := HHL.out
            rw [List.map_append, List.map_cons] at HHL2
            have HHL3 := Aside0.mk HHL2
            clear HHL HHL2 hpp hA2 hB2 hR2 hrem HIR
            have hzd : wd.heap = wr.heap := by rcases hwd with rfl | rfl <;> rfl
            have hzB : Below w.heap.size w wd := by rcases hwd with rfl | rfl; exact HB.out; exact below_drew HB.out
            have HOD : wd.ownsRow N1 23 2 (.slice A' all.length c') all.length (flatSp (all.map (·.2))) := by rcases hwd with rfl | rfl; exact HOW.out; exact HOW.out
            clear hwd
            have hfar : ∀ j, j ≠ GR → (wd.putObj GR o1).heap[j]? = wr.heap[j]? := fun j hj => (World.putObj_heap_other hj).trans (by rw [hzd])
            have hsz2 : (wd.putObj GR o1).heap.size = wr.heap.size := by simp [hzd]
            obtain ⟨w2, hw2⟩ : ∃ w2, wd.putObj GR o1 = w2 := ⟨_, rfl⟩
            rw [hw2] at hnx hen hfar hIR2 hsz2
            have y6 := (hfar G6 (Ne.symm nR6)).trans Z6.out
            have y9 := (hfar G9 (Ne.symm nR9)).trans Z9.out
            have y11 := (hfar G11 (Ne.symm nR11)).trans Z11.out
            have yK := (hfar D (Ne.symm nRD)).trans ZK.out
            have hB2' : Below w.heap.size w w2 := hw2 ▸ below_put hzB hleR
            have hOW2 : w2.ownsRow N1 23 2 (.slice A' all.length c') all.length (flatSp (all.map (·.2))) := own_move HOD (fun k hk => by
              have := own_base HOD k hk
              rw [← hw2]
              exact World.putObj_heap_other (by omega))
            obtain ⟨w3, hw3⟩ : ∃ w3, w2.alloc (.cells #[.int .i64 p0, .int .i64 p1] 23) = w3 := ⟨_, rfl⟩
            have v6 : w3.heap[G6]? = _ := hw3 ▸ blk_alloc y6 _
            have v9 : w3.heap[G9]? = _ := hw3 ▸ blk_alloc y9 _
            have v11 : w3.heap[G11]? = _ := hw3 ▸ blk_alloc y11 _
            have vK : w3.heap[D]? = _ := hw3 ▸ blk_alloc yK _
            have vS : w3.heap[w2.heap.size]? = some (.cells #[.int .i64 p0, .int .i64 p1] 23) := hw3 ▸ blk_new _ _
            have hB3 : Below w.heap.size w w3 := hw3 ▸ below_alloc hB2' _
            have hOW3 : w3.ownsRow N1 23 2 (.slice A' all.length c') all.length (flatSp (all.map (·.2))) := hw3 ▸ hOW2.alloc _
            have hIR3 := hIR2.at_ (w' := w3) (hw3 ▸ Below.heap_alloc w2 _ _ hIR2.lt.2.1) (hw3 ▸ Below.heap_alloc w2 _ _ hIR2.lt.1)
            have hsz3 : w3.heap.size = w2.heap.size + 1 := by rw [← hw3]; simp
            have W6 := Aside0.mk v6
            have W9 := Aside0.mk v9
            have W11 := Aside0.mk v11
            have WK := Aside0.mk vK
            have WS := Aside0.mk vS
            have HW3 := Aside0.mk hw3
            have HB3 := Aside0.mk hB3
            have HOW3 := Aside0.mk hOW3
            have HIR3 := Aside0.mk hIR3
            have HFAR := Aside0.mk hfar
            clear hw2 hw3 y6 y9 y11 yK hB2' hOW2 v6 v9 v11 vK vS hB3 hOW3 hIR3 hIR2 hfar HOW HB Z6 Z9 Z11 ZK hzd hzB HOD
            have hmx : Tryd.prog.follows .mixedOrders = true := by kernel_rfl
            have hN3 : N1 ≤ w3.heap.size := by omega
            clear hsz2 hsz3
            gi_wp2
            rw [HW3.out]
            have t0 := (blk_cell WS.out 0).trans rfl
            have t1 := (blk_cell WS.out 1).trans rfl
            clear hnx hen
            rcases nil_or_snoc all with rfl | ⟨init, z, rfl⟩
            · simp only [List.length_nil]
              refine wpIn_region_held0 (fun w' => w' = w3.drew) hmx (by kernel_rfl) rfl (fun hHeld => ?_)
              refine take_v 0 (some 82) (.slice A' 0 c') rfl rfl (by kernel_rfl) (by kernel_rfl) (by kernel_rfl) rfl hHeld (fun w hSw => ?_) ?_
              · subst hSw
                go_simp
              simp only [Act.put, List.setIfInBounds_toArray, List.set_cons_zero, List.set_cons_succ]
              refine take_v 1 (some 83) (.int .i64 0) rfl rfl (by kernel_rfl) (by kernel_rfl) (by kernel_rfl) rfl hHeld (fun w hSw => ?_) ?_
              · subst hSw
                go_simp
              simp only [Act.put, List.setIfInBounds_toArray, List.set_cons_zero, List.set_cons_succ]
              refine take_v 2 (some 84) (.bool true) rfl rfl (by kernel_rfl) (by kernel_rfl) (by kernel_rfl) rfl hHeld (fun w hSw => ?_) ?_
              · subst hSw
                go_simp
              simp only [Act.put, List.setIfInBounds_toArray, List.set_cons_zero, List.set_cons_succ]
              refine take_v 3 (some 85) (.bool true) rfl rfl (by kernel_rfl) (by kernel_rfl) (by kernel_rfl) rfl hHeld (fun w hSw => ?_) ?_
              · subst hSw
                go_simp
              simp only [Act.put, List.setIfInBounds_toArray, List.set_cons_zero, List.set_cons_succ]
              refine take_no 4 (some 86) rfl rfl (by kernel_rfl) (by kernel_rfl) (by kernel_rfl) (wanted_is (d := 85) (b := true) (want := false) rfl rfl rfl rfl) hHeld ?_
              simp only [Act.put, List.setIfInBounds_toArray, List.set_cons_zero, List.set_cons_succ]
              refine take_no 5 (some 87) rfl rfl (by kernel_rfl) (by kernel_rfl) (by kernel_rfl) (wanted_is (d := 85) (b := true) (want := false) rfl rfl rfl rfl) hHeld ?_
              simp only [Act.put, List.setIfInBounds_toArray, List.set_cons_zero, List.set_cons_succ]
              refine take_no 6 (some 88) rfl rfl (by kernel_rfl) (by kernel_rfl) (by kernel_rfl) (wanted_is (d := 85) (b := true) (want := false) rfl rfl rfl rfl) hHeld ?_
              simp only [Act.put, List.setIfInBounds_toArray, List.set_cons_zero, List.set_cons_succ]
              refine take_no 7 (some 89) rfl rfl (by kernel_rfl) (by kernel_rfl) (by kernel_rfl) (wanted_is (d := 85) (b := true) (want := false) rfl rfl rfl rfl) hHeld ?_
              simp only [Act.put, List.setIfInBounds_toArray, List.set_cons_zero, List.set_cons_succ]
              refine take_no 8 (some 90) rfl rfl (by kernel_rfl) (by kernel_rfl) (by kernel_rfl) (wanted_is (d := 85) (b := true) (want := false) rfl rfl rfl rfl) hHeld ?_
              simp only [Act.put, List.setIfInBounds_toArray, List.set_cons_zero, List.set_cons_succ]
              refine take_no 9 (some 91) rfl rfl (by kernel_rfl) (by kernel_rfl) (by kernel_rfl) (wanted_is (d := 85) (b := true) (want := false) rfl rfl rfl rfl) hHeld ?_
              simp only [Act.put, List.setIfInBounds_toArray, List.set_cons_zero, List.set_cons_succ]
              refine take_no 10 (some 92) rfl rfl (by kernel_rfl) (by kernel_rfl) (by kernel_rfl) (wanted_is (d := 85) (b := true) (want := false) rfl rfl rfl rfl) hHeld ?_
              simp only [Act.put, List.setIfInBounds_toArray, List.set_cons_zero, List.set_cons_succ]
              refine take_no 11 (some 93) rfl rfl (by kernel_rfl) (by kernel_rfl) (by kernel_rfl) (wanted_is (d := 85) (b := true) (want := false) rfl rfl rfl rfl) hHeld ?_
              simp only [Act.put, List.setIfInBounds_toArray, List.set_cons_zero, List.set_cons_succ]
              refine take_v 12 (some 94) (.bool true) rfl rfl (by kernel_rfl) (by kernel_rfl) (by kernel_rfl) rfl hHeld (fun w hSw => ?_) ?_
              · subst hSw
                go_simp
              simp only [Act.put, List.setIfInBounds_toArray, List.set_cons_zero, List.set_cons_succ]
              refine wpAnyH_done (by kernel_rfl) ?_ _
              simp only [OnlyN]
              obtain ⟨i0, hi, hz, hsz', hby⟩ := info_parts infoS
              have hbig : N1 ≤ w3.heap.size + 1 := by omega
              obtain ⟨FL, hFL⟩ : ∃ FL, flatSp (([] : List (Int × (Int × Int))).map (·.2)) = FL := ⟨_, rfl⟩
              have HOW4 : Aside0 (w3.drew.ownsRow N1 23 2 (.slice A' 0 c') 0 FL) := ⟨by have h := HOW3.out; rw [hFL] at h; exact h⟩
              have HFL := Aside0.mk hFL
              clear hFL
              have hne7 : Aside0 (∀ g, g < N1 → some g ≠ (Value.slice A' 0 c').ownBlock) := ⟨fun g hg e => by have := own_base HOW4.out g e.symm; omega⟩
              have HNEWS := Aside0.mk (news_two w3.drew 23 (.int .i64 p0) (.int .i64 p1))
              have h1c : Aside0 (∀ u ∈ ([.int .i64 p0, .int .i64 p1] : List Value), u.oneCell' = true) := ⟨by simp [Value.oneCell']⟩
              have h16 : (0 + 1) * 16 ≤ 140737488355328 := by omega
              have hlen' : 0 + 1 ≤ maxLen := by unfold maxLen; omega
              have t0d : w3.drew.cell? ⟨w2.heap.size, 0, none⟩ = some (.int .i64 p0) := t0
              have t1d : w3.drew.cell? ⟨w2.heap.size, 1, none⟩ = some (.int .i64 p1) := t1
              gi_wp2_with ((gi_at_builtin; go_must (refine wpListIn_append_own_at _ rfl _ _ 61 rfl N1 23 i0 (.agg #[.int .i64 0, .int .i64 0]) 2 16 Tryd.underlying61 hi hz hsz' hby rfl (by decide) (.slice A' 0 c') 0 FL rfl (HOW4.out.alloc _) ⟨w3.heap.size, 0, none⟩ 1 1 [.int .i64 p0, .int .i64 p1] rfl rfl HNEWS.out h1c.out hlen' h16 (by simpa using hbig) ?_); intro v' w5 hown' hgrow hne hat; clear hne; obtain ⟨g', cap', rfl⟩ := ownsRow_succ hown'; have HOWN := Aside0.mk hown'; have HGR := Aside0.mk hgrow; clear hown' hgrow hat))
              gi_roundg (A2 ++ B2).length
              case measure =>
                simp at hrg ⊢
                omega
              case rel =>
                have hg5 : ∀ j o, j < N1 → w3.heap[j]? = some o → w5.heap[j]? = some o := fun j o hj ho => blk_grown (blk_alloc (show w3.drew.heap[j]? = some o from ho) _) HGR.out (hne7.out j hj)
                have hB5 : Below w.heap.size w w5 := (below_alloc (below_drew HB3.out) (.cells #[.int .i64 p0, .int .i64 p1] 23)).grown HGR.out (below_alloc (below_drew HB3.out) (.cells #[.int .i64 p0, .int .i64 p1] 23)).size (fun k e => by have := own_base HOW4.out k e; omega)
                have hsz5 : w3.heap.size ≤ w5.heap.size := by have := HGR.out.size; simp at this; omega
                have hIR5 := HIR3.out.at_ (w' := w5) (by
                  obtain ⟨o, ho⟩ : ∃ o, w3.heap[GM]? = some o := ⟨_, Array.getElem?_eq_getElem HIR3.out.lt.2.1⟩
                  rw [ho]
                  exact hg5 GM o (by omega) ho) (by
                  obtain ⟨o, ho⟩ : ∃ o, w3.heap[GR]? = some o := ⟨_, Array.getElem?_eq_getElem HIR3.out.lt.1⟩
                  rw [ho]
                  exact hg5 GR o hlR' ho)
                refine ⟨([] : List (Int × (Int × Int))) ++ [(px, p0, p1)], A2 ++ B2, some ⟨g', 0, none⟩, cap', by simp, by omega, by simp at hal ⊢; omega, by omega, ⟨hIR5⟩, ⟨?_⟩, ⟨?_⟩, ⟨hB5⟩, ⟨hg5 G6 _ hl6' W6.out⟩, ⟨hg5 G9 _ hl9' W9.out⟩, ⟨hg5 G11 _ hl11' W11.out⟩, ⟨hg5 D _ hlD' WK.out⟩⟩
                · have := HOWN.out
                  rw [show flatSp ((([] : List (Int × (Int × Int))) ++ [(px, p0, p1)]).map (·.2)) = FL ++ [.int .i64 p0, .int .i64 p1] from by rw [List.map_append, flatSp_append, HFL.out]; rfl, show (([] : List (Int × (Int × Int))) ++ [(px, p0, p1)]).length = 0 + 1 from by simp]
                  exact this
                · rw [← HHL3.out, List.map_append, List.map_append]
                  exact hullL_take _ _ _ _
            · obtain ⟨zx, z0, z1⟩ := z
              obtain ⟨m, hm⟩ : ∃ m, init.length = m := ⟨_, rfl⟩
              have HOWm : w3.ownsRow N1 23 2 (.slice A' (m + 1) c') (m + 1) (flatSp ((init ++ [(zx, z0, z1)]).map (·.2))) := by
                have h := HOW3.out
                rw [List.length_append, List.length_singleton, hm] at h
                exact h
              rw [List.length_append, List.length_singleton, hm]
              obtain ⟨A3, c3, hv3, hread⟩ := own_reads_row (R := kdS.K w3) HOWm (reps_flatSp w3 _) (by simp [hm])
              obtain ⟨ad, zz, hA, hzz, e0, e1⟩ := C_span (w := w3) hread m (by omega)
              have hzz' : zz = (z0, z1) := by
                rw [List.getElem?_map, List.getElem?_append_right (by omega), hm] at hzz
                simpa using hzz.symm
              subst hzz'
              simp only [Value.slice.injEq] at hv3
              obtain ⟨rfl, -, rfl⟩ := hv3
              subst hA
              have HOM := Aside0.mk HOWm
              have hal2 : m + 1 ≤ 31 := by simp at hal; omega
              have e0d : w3.drew.cell? (ad.add (m * 2)) = some (.int .i64 z0) := e0
              have e1d : w3.drew.cell? ⟨(ad.add (m * 2)).block, (ad.add (m * 2)).off + 1, none⟩ = some (.int .i64 z1) := e1
              have hmlt : (m : Int) < ((m + 1 : Nat) : Int) := by omega
              have hm0 : (0 : Int) ≤ (m : Int) := by omega
              have hwm : IntKind.i64.wrap (((m + 1 : Nat) : Int) - 1) = (m : Int) := by rw [IntKind.wrap_i64]; omega
              have hne0 : ¬ ((m + 1 : Nat) : Int) = 0 := by omega
              clear HOWm hread hzz e0 e1
              by_cases hpz : p0 = z0 ∧ p1 = z1
              · obtain ⟨rfl, rfl⟩ := hpz
                refine wpIn_region_held0 (fun w' => w' = w3.drew) hmx (by kernel_rfl) rfl (fun hHeld => ?_)
                refine take_v 0 (some 82) (.slice (some ad) (m + 1) c') rfl rfl (by kernel_rfl) (by kernel_rfl) (by kernel_rfl) rfl hHeld (fun w hSw => ?_) ?_
                · subst hSw
                  go_simp
                  all_goals first | omega | (rw [IntKind.wrap_i64]; omega) | (intro hx; exfalso; omega)
                simp only [Act.put, List.setIfInBounds_toArray, List.set_cons_zero, List.set_cons_succ]
                refine take_v 1 (some 83) (.int .i64 ((m + 1 : Nat) : Int)) rfl rfl (by kernel_rfl) (by kernel_rfl) (by kernel_rfl) rfl hHeld (fun w hSw => ?_) ?_
                · subst hSw
                  go_simp
                  all_goals first | omega | (rw [IntKind.wrap_i64]; omega) | (intro hx; exfalso; omega)
                simp only [Act.put, List.setIfInBounds_toArray, List.set_cons_zero, List.set_cons_succ]
                refine take_v 2 (some 84) (.bool false) rfl rfl (by kernel_rfl) (by kernel_rfl) (by kernel_rfl) rfl hHeld (fun w hSw => ?_) ?_
                · subst hSw
                  go_simp
                  all_goals first | omega | (rw [IntKind.wrap_i64]; omega) | (intro hx; exfalso; omega)
                simp only [Act.put, List.setIfInBounds_toArray, List.set_cons_zero, List.set_cons_succ]
                refine take_v 3 (some 85) (.bool false) rfl rfl (by kernel_rfl) (by kernel_rfl) (by kernel_rfl) rfl hHeld (fun w hSw => ?_) ?_
                · subst hSw
                  go_simp
                  all_goals first | omega | (rw [IntKind.wrap_i64]; omega) | (intro hx; exfalso; omega)
                simp only [Act.put, List.setIfInBounds_toArray, List.set_cons_zero, List.set_cons_succ]
                refine take_v 4 (some 86) (.agg #[.int .i64 p0, .int .i64 p1]) rfl rfl (by kernel_rfl) (by kernel_rfl) (by kernel_rfl) (wanted_is (d := 85) (b := false) (want := false) rfl rfl rfl rfl) hHeld (fun w hSw => ?_) ?_
                · subst hSw
                  go_simp
                  all_goals first | omega | (rw [IntKind.wrap_i64]; omega) | (intro hx; exfalso; omega)
                simp only [Act.put, List.setIfInBounds_toArray, List.set_cons_zero, List.set_cons_succ]
                refine take_v 5 (some 87) (.slice (some ad) (m + 1) c') rfl rfl (by kernel_rfl) (by kernel_rfl) (by kernel_rfl) (wanted_is (d := 85) (b := false) (want := false) rfl rfl rfl rfl) hHeld (fun w hSw => ?_) ?_
                · subst hSw
                  go_simp
                  all_goals first | omega | (rw [IntKind.wrap_i64]; omega) | (intro hx; exfalso; omega)
                simp only [Act.put, List.setIfInBounds_toArray, List.set_cons_zero, List.set_cons_succ]
                refine take_v 6 (some 88) (.slice (some ad) (m + 1) c') rfl rfl (by kernel_rfl) (by kernel_rfl) (by kernel_rfl) (wanted_is (d := 85) (b := false) (want := false) rfl rfl rfl rfl) hHeld (fun w hSw => ?_) ?_
                · subst hSw
                  go_simp
                  all_goals first | omega | (rw [IntKind.wrap_i64]; omega) | (intro hx; exfalso; omega)
                simp only [Act.put, List.setIfInBounds_toArray, List.set_cons_zero, List.set_cons_succ]
                refine take_v 7 (some 89) (.int .i64 ((m + 1 : Nat) : Int)) rfl rfl (by kernel_rfl) (by kernel_rfl) (by kernel_rfl) (wanted_is (d := 85) (b := false) (want := false) rfl rfl rfl rfl) hHeld (fun w hSw => ?_) ?_
                · subst hSw
                  go_simp
                  all_goals first | omega | (rw [IntKind.wrap_i64]; omega) | (intro hx; exfalso; omega)
                simp only [Act.put, List.setIfInBounds_toArray, List.set_cons_zero, List.set_cons_succ]
                refine take_v 8 (some 90) (.int .i64 (m : Int)) rfl rfl (by kernel_rfl) (by kernel_rfl) (by kernel_rfl) (wanted_is (d := 85) (b := false) (want := false) rfl rfl rfl rfl) hHeld (fun w hSw => ?_) ?_
                · subst hSw
                  go_simp
                  all_goals first | omega | (rw [IntKind.wrap_i64]; omega) | (intro hx; exfalso; omega)
                simp only [Act.put, List.setIfInBounds_toArray, List.set_cons_zero, List.set_cons_succ]
                refine take_v 9 (some 91) (.pointer (some (ad.add (m * 2)))) rfl rfl (by kernel_rfl) (by kernel_rfl) (by kernel_rfl) (wanted_is (d := 85) (b := false) (want := false) rfl rfl rfl rfl) hHeld (fun w hSw => ?_) ?_
                · subst hSw
                  go_simp
                  all_goals first | omega | (rw [IntKind.wrap_i64]; omega) | (intro hx; exfalso; omega)
                simp only [Act.put, List.setIfInBounds_toArray, List.set_cons_zero, List.set_cons_succ]
                refine take_v 10 (some 92) (.agg #[.int .i64 p0, .int .i64 p1]) rfl rfl (by kernel_rfl) (by kernel_rfl) (by kernel_rfl) (wanted_is (d := 85) (b := false) (want := false) rfl rfl rfl rfl) hHeld (fun w hSw => ?_) ?_
                · subst hSw
                  go_simp
                  all_goals first | omega | (rw [IntKind.wrap_i64]; omega) | (intro hx; exfalso; omega)
                simp only [Act.put, List.setIfInBounds_toArray, List.set_cons_zero, List.set_cons_succ]
                refine take_v 11 (some 93) (.bool false) rfl rfl (by kernel_rfl) (by kernel_rfl) (by kernel_rfl) (wanted_is (d := 85) (b := false) (want := false) rfl rfl rfl rfl) hHeld (fun w hSw => ?_) ?_
                · subst hSw
                  go_simp
                  all_goals first | omega | (rw [IntKind.wrap_i64]; omega) | (intro hx; exfalso; omega)
                simp only [Act.put, List.setIfInBounds_toArray, List.set_cons_zero, List.set_cons_succ]
                refine take_v 12 (some 94) (.bool false) rfl rfl (by kernel_rfl) (by kernel_rfl) (by kernel_rfl) rfl hHeld (fun w hSw => ?_) ?_
                · subst hSw
                  go_simp
                  all_goals first | omega | (rw [IntKind.wrap_i64]; omega) | (intro hx; exfalso; omega)
                simp only [Act.put, List.setIfInBounds_toArray, List.set_cons_zero, List.set_cons_succ]
                refine wpAnyH_done (by kernel_rfl) ?_ _
                simp only [OnlyN]
                gi_wp2
                gi_roundg (A2 ++ B2).length
                case measure =>
                  simp at hrg ⊢
                  omega
                case rel =>
                  refine ⟨init ++ [(zx, p0, p1)], A2 ++ B2, some ad, c', by simp [hm], by omega, by simp at hal ⊢; omega, by simpa using hN3, ⟨HIR3.out⟩, ⟨?_⟩, ⟨?_⟩, ⟨below_drew HB3.out⟩, ⟨W6.out⟩, ⟨W9.out⟩, ⟨W11.out⟩, ⟨WK.out⟩⟩
                  · have h := HOM.out
                    rw [show (init ++ [(zx, p0, p1)]).length = m + 1 from by simp [hm]]
                    exact h
                  · rw [← HHL3.out, List.map_append (l₁ := A2)]
                    exact hullL_skip (by simp)
              · have hpz' : (p0 == z0 && (p1 == z1)) = false := by
                  simp only [Bool.and_eq_false_iff, beq_eq_false_iff_ne, ne_eq]
                  omega
                refine wpIn_region_held0 (fun w' => w' = w3.drew) hmx (by kernel_rfl) rfl (fun hHeld => ?_)
                refine take_v 0 (some 82) (.slice (some ad) (m + 1) c') rfl rfl (by kernel_rfl) (by kernel_rfl) (by kernel_rfl) rfl hHeld (fun w hSw => ?_) ?_
                · subst hSw
                  go_simp
                  all_goals first | omega | (rw [IntKind.wrap_i64]; omega) | (intro hx; exfalso; omega)
                simp only [Act.put, List.setIfInBounds_toArray, List.set_cons_zero, List.set_cons_succ]
                refine take_v 1 (some 83) (.int .i64 ((m + 1 : Nat) : Int)) rfl rfl (by kernel_rfl) (by kernel_rfl) (by kernel_rfl) rfl hHeld (fun w hSw => ?_) ?_
                · subst hSw
                  go_simp
                  all_goals first | omega | (rw [IntKind.wrap_i64]; omega) | (intro hx; exfalso; omega)
                simp only [Act.put, List.setIfInBounds_toArray, List.set_cons_zero, List.set_cons_succ]
                refine take_v 2 (some 84) (.bool false) rfl rfl (by kernel_rfl) (by kernel_rfl) (by kernel_rfl) rfl hHeld (fun w hSw => ?_) ?_
                · subst hSw
                  go_simp
                  all_goals first | omega | (rw [IntKind.wrap_i64]; omega) | (intro hx; exfalso; omega)
                simp only [Act.put, List.setIfInBounds_toArray, List.set_cons_zero, List.set_cons_succ]
                refine take_v 3 (some 85) (.bool false) rfl rfl (by kernel_rfl) (by kernel_rfl) (by kernel_rfl) rfl hHeld (fun w hSw => ?_) ?_
                · subst hSw
                  go_simp
                  all_goals first | omega | (rw [IntKind.wrap_i64]; omega) | (intro hx; exfalso; omega)
                simp only [Act.put, List.setIfInBounds_toArray, List.set_cons_zero, List.set_cons_succ]
                refine take_v 4 (some 86) (.agg #[.int .i64 p0, .int .i64 p1]) rfl rfl (by kernel_rfl) (by kernel_rfl) (by kernel_rfl) (wanted_is (d := 85) (b := false) (want := false) rfl rfl rfl rfl) hHeld (fun w hSw => ?_) ?_
                · subst hSw
                  go_simp
                  all_goals first | omega | (rw [IntKind.wrap_i64]; omega) | (intro hx; exfalso; omega)
                simp only [Act.put, List.setIfInBounds_toArray, List.set_cons_zero, List.set_cons_succ]
                refine take_v 5 (some 87) (.slice (some ad) (m + 1) c') rfl rfl (by kernel_rfl) (by kernel_rfl) (by kernel_rfl) (wanted_is (d := 85) (b := false) (want := false) rfl rfl rfl rfl) hHeld (fun w hSw => ?_) ?_
                · subst hSw
                  go_simp
                  all_goals first | omega | (rw [IntKind.wrap_i64]; omega) | (intro hx; exfalso; omega)
                simp only [Act.put, List.setIfInBounds_toArray, List.set_cons_zero, List.set_cons_succ]
                refine take_v 6 (some 88) (.slice (some ad) (m + 1) c') rfl rfl (by kernel_rfl) (by kernel_rfl) (by kernel_rfl) (wanted_is (d := 85) (b := false) (want := false) rfl rfl rfl rfl) hHeld (fun w hSw => ?_) ?_
                · subst hSw
                  go_simp
                  all_goals first | omega | (rw [IntKind.wrap_i64]; omega) | (intro hx; exfalso; omega)
                simp only [Act.put, List.setIfInBounds_toArray, List.set_cons_zero, List.set_cons_succ]
                refine take_v 7 (some 89) (.int .i64 ((m + 1 : Nat) : Int)) rfl rfl (by kernel_rfl) (by kernel_rfl) (by kernel_rfl) (wanted_is (d := 85) (b := false) (want := false) rfl rfl rfl rfl) hHeld (fun w hSw => ?_) ?_
                · subst hSw
                  go_simp
                  all_goals first | omega | (rw [IntKind.wrap_i64]; omega) | (intro hx; exfalso; omega)
                simp only [Act.put, List.setIfInBounds_toArray, List.set_cons_zero, List.set_cons_succ]
                refine take_v 8 (some 90) (.int .i64 (m : Int)) rfl rfl (by kernel_rfl) (by kernel_rfl) (by kernel_rfl) (wanted_is (d := 85) (b := false) (want := false) rfl rfl rfl rfl) hHeld (fun w hSw => ?_) ?_
                · subst hSw
                  go_simp
                  all_goals first | omega | (rw [IntKind.wrap_i64]; omega) | (intro hx; exfalso; omega)
                simp only [Act.put, List.setIfInBounds_toArray, List.set_cons_zero, List.set_cons_succ]
                refine take_v 9 (some 91) (.pointer (some (ad.add (m * 2)))) rfl rfl (by kernel_rfl) (by kernel_rfl) (by kernel_rfl) (wanted_is (d := 85) (b := false) (want := false) rfl rfl rfl rfl) hHeld (fun w hSw => ?_) ?_
                · subst hSw
                  go_simp
                  all_goals first | omega | (rw [IntKind.wrap_i64]; omega) | (intro hx; exfalso; omega)
                simp only [Act.put, List.setIfInBounds_toArray, List.set_cons_zero, List.set_cons_succ]
                refine take_v 10 (some 92) (.agg #[.int .i64 z0, .int .i64 z1]) rfl rfl (by kernel_rfl) (by kernel_rfl) (by kernel_rfl) (wanted_is (d := 85) (b := false) (want := false) rfl rfl rfl rfl) hHeld (fun w hSw => ?_) ?_
                · subst hSw
                  go_simp
                  all_goals first | omega | (rw [IntKind.wrap_i64]; omega) | (intro hx; exfalso; omega)
                simp only [Act.put, List.setIfInBounds_toArray, List.set_cons_zero, List.set_cons_succ]
                refine take_v 11 (some 93) (.bool true) rfl rfl (by kernel_rfl) (by kernel_rfl) (by kernel_rfl) (wanted_is (d := 85) (b := false) (want := false) rfl rfl rfl rfl) hHeld (fun w hSw => ?_) ?_
                · subst hSw
                  go_simp
                  all_goals first | omega | (rw [IntKind.wrap_i64]; omega) | (intro hx; exfalso; omega)
                simp only [Act.put, List.setIfInBounds_toArray, List.set_cons_zero, List.set_cons_succ]
                refine take_v 12 (some 94) (.bool true) rfl rfl (by kernel_rfl) (by kernel_rfl) (by kernel_rfl) rfl hHeld (fun w hSw => ?_) ?_
                · subst hSw
                  go_simp
                  all_goals first | omega | (rw [IntKind.wrap_i64]; omega) | (intro hx; exfalso; omega)
                simp only [Act.put, List.setIfInBounds_toArray, List.set_cons_zero, List.set_cons_succ]
                refine wpAnyH_done (by kernel_rfl) ?_ _
                simp only [OnlyN]
                obtain ⟨i0, hi, hz, hsz', hby⟩ := info_parts infoS
                have hbig : N1 ≤ w3.heap.size + 1 := by omega
                obtain ⟨FL, hFL⟩ : ∃ FL, flatSp ((init ++ [(zx, z0, z1)]).map (·.2)) = FL := ⟨_, rfl⟩
                have HOW4 : Aside0 (w3.drew.ownsRow N1 23 2 (.slice (some ad) (m + 1) c') (m + 1) FL) := ⟨by have h := HOM.out; rw [hFL] at h; exact h⟩
                have HFL := Aside0.mk hFL
                clear hFL
                have hne7 : Aside0 (∀ g, g < N1 → some g ≠ (Value.slice (some ad) (m + 1) c').ownBlock) := ⟨fun g hg e => by have := own_base HOW4.out g e.symm; omega⟩
                have HNEWS := Aside0.mk (news_two w3.drew 23 (.int .i64 p0) (.int .i64 p1))
                have h1c : Aside0 (∀ u ∈ ([.int .i64 p0, .int .i64 p1] : List Value), u.oneCell' = true) := ⟨by simp [Value.oneCell']⟩
                have h16 : (m + 1 + 1) * 16 ≤ 140737488355328 := by omega
                have hlen' : m + 1 + 1 ≤ maxLen := by unfold maxLen; omega
                have t0d : w3.drew.cell? ⟨w2.heap.size, 0, none⟩ = some (.int .i64 p0) := t0
                have t1d : w3.drew.cell? ⟨w2.heap.size, 1, none⟩ = some (.int .i64 p1) := t1
                gi_wp2_with ((gi_at_builtin; go_must (refine wpListIn_append_own_at _ rfl _ _ 61 rfl N1 23 i0 (.agg #[.int .i64 0, .int .i64 0]) 2 16 Tryd.underlying61 hi hz hsz' hby rfl (by decide) (.slice (some ad) (m + 1) c') (m + 1) FL rfl (HOW4.out.alloc _) ⟨w3.heap.size, 0, none⟩ 1 1 [.int .i64 p0, .int .i64 p1] rfl rfl HNEWS.out h1c.out hlen' h16 (by simpa using hbig) ?_); intro v' w5 hown' hgrow hne hat; clear hne; obtain ⟨g', cap', rfl⟩ := ownsRow_succ hown'; have HOWN := Aside0.mk hown'; have HGR := Aside0.mk hgrow; clear hown' hgrow hat))
                gi_roundg (A2 ++ B2).length
                case measure =>
                  simp at hrg ⊢
                  omega
                case rel =>
                  have hg5 : ∀ j o, j < N1 → w3.heap[j]? = some o → w5.heap[j]? = some o := fun j o hj ho => blk_grown (blk_alloc (show w3.drew.heap[j]? = some o from ho) _) HGR.out (hne7.out j hj)
                  have hB5 : Below w.heap.size w w5 := (below_alloc (below_drew HB3.out) (.cells #[.int .i64 p0, .int .i64 p1] 23)).grown HGR.out (below_alloc (below_drew HB3.out) (.cells #[.int .i64 p0, .int .i64 p1] 23)).size (fun k e => by have := own_base HOW4.out k e; omega)
                  have hsz5 : w3.heap.size ≤ w5.heap.size := by have := HGR.out.size; simp at this; omega
                  have hIR5 := HIR3.out.at_ (w' := w5) (by
                    obtain ⟨o, ho⟩ : ∃ o, w3.heap[GM]? = some o := ⟨_, Array.getElem?_eq_getElem HIR3.out.lt.2.1⟩
                    rw [ho]
                    exact hg5 GM o (by omega) ho) (by
                    obtain ⟨o, ho⟩ : ∃ o, w3.heap[GR]? = some o := ⟨_, Array.getElem?_eq_getElem HIR3.out.lt.1⟩
                    rw [ho]
                    exact hg5 GR o hlR' ho)
                  refine ⟨(init ++ [(zx, z0, z1)]) ++ [(px, p0, p1)], A2 ++ B2, some ⟨g', 0, none⟩, cap', by simp [hm], by omega, by simp at hal ⊢; omega, by omega, ⟨hIR5⟩, ⟨?_⟩, ⟨?_⟩, ⟨hB5⟩, ⟨hg5 G6 _ hl6' W6.out⟩, ⟨hg5 G9 _ hl9' W9.out⟩, ⟨hg5 G11 _ hl11' W11.out⟩, ⟨hg5 D _ hlD' WK.out⟩⟩
                  · have := HOWN.out
                    rw [show flatSp (((init ++ [(zx, z0, z1)]) ++ [(px, p0, p1)]).map (·.2)) = FL ++ [.int .i64 p0, .int .i64 p1] from by rw [List.map_append, flatSp_append, HFL.out]; rfl, show ((init ++ [(zx, z0, z1)]) ++ [(px, p0, p1)]).length = m + 1 + 1 from by simp [hm]]
                    exact this
                  · rw [← HHL3.out]
                    simp only [List.map_append]
                    exact hullL_take _ _ _ _
      case stop =>
        rintro D c' pre W _ _ h _
        exact h.elim
  · rw [if_neg he] at h
    simp only [Option.some.injEq, Prod.mk.injEq] at h
    obtain ⟨rfl, rfl, rfl, rfl⟩ := h
    have he1 : (e0 != 0) = true := bne_iff_ne.2 he
    clear he
    have d3_ := (blk_cell b6 0).trans rfl
    have d4_ := (blk_cell b6 1).trans rfl
    have f3_ := blk_frozen b6 0
    have f4_ := blk_frozen b6 1
    have BK := Aside0.mk b6
    clear b5 b6
    gi_wp2
    go_goals
    refine ⟨_, results_ctt rfl _ _ G6 23 #[.int .i64 0, .int .i64 0] (0, 0) _ rfl (by
      refine blk_alloc ?_ _
      refine blk_put (cs := #[.int .i64 0, .int .i64 0]) ?_ 1 _ rfl
      refine blk_put (cs := #[.int .i64 0, .int .i64 0]) ?_ 0 _ rfl
      exact BK.out) Tryd.underlying23 rfl (by kernel_rfl), rfl, ?_⟩
    exact below_alloc (below_set (below_set HB1.out hle) hle) _
end Go.Proofs.YtaijhbliagjeaaaDoor
namespace Go.Proofs.YtaijhbliagjeaaaDoor
open Go.RowKit Go.Proofs.YtaijhbliagjeaaaDoorW.PrintWords Go.Proofs.YtaijhbliagjeaaaDoorW.PrintMore
set_option linter.unusedVariables false
set_option linter.unusedSimpArgs false
theorem mem_upFrom (a : Int) (n : Nat) (x : Int) : x ∈ upFrom a n ↔ a ≤ x ∧ x < a + n := by
  unfold upFrom
  simp only [List.mem_map, List.mem_range]
  constructor
  · rintro ⟨k, hk, rfl⟩
    omega
  · intro h
    exact ⟨(x - a).toNat, by omega, by omega⟩
/-! ### sums over all lags -/
structure SumSpec (lo hi : Int → Int) (g0 g1 : Int) (p : Int × Int) : Prop where
  low : ∀ x, g0 ≤ x → x ≤ g1 → p.1 ≤ lo x
  high : ∀ x, g0 ≤ x → x ≤ g1 → hi x ≤ p.2
  lowAt : ∃ x, g0 ≤ x ∧ x ≤ g1 ∧ p.1 = lo x
  highAt : ∃ x, g0 ≤ x ∧ x ≤ g1 ∧ p.2 = hi x
theorem SumSpec.same {lo hi : Int → Int} {g0 g1 : Int} {p q : Int × Int} (h : SumSpec lo hi g0 g1 p) (h' : SumSpec lo hi g0 g1 q) : p = q := by
  obtain ⟨x, x0, x1, hx⟩ := h.lowAt
  obtain ⟨y, y0, y1, hy⟩ := h.highAt
  obtain ⟨x', x0', x1', hx'⟩ := h'.lowAt
  obtain ⟨y', y0', y1', hy'⟩ := h'.highAt
  have a1 := h.low x' x0' x1'
  have a2 := h'.low x x0 x1
  have a3 := h.high y' y0' y1'
  have a4 := h'.high y y0 y1
  ext <;> omega
theorem hull_le (a b : Int × Int) : (hull a b).1 ≤ a.1 ∧ (hull a b).1 ≤ b.1 ∧ a.2 ≤ (hull a b).2 ∧ b.2 ≤ (hull a b).2 ∧ ((hull a b).1 = a.1 ∨ (hull a b).1 = b.1) ∧ ((hull a b).2 = a.2 ∨ (hull a b).2 = b.2) := by
  unfold hull mn mx
  simp only
  repeat' split
  all_goals omega
theorem fold_spec (f : Int → Int × Int) : ∀ (xs : List Int) (s : Int × Int), ((xs.map f).foldl hull s).1 ≤ s.1 ∧ s.2 ≤ ((xs.map f).foldl hull s).2 ∧
    (∀ x ∈ xs, ((xs.map f).foldl hull s).1 ≤ (f x).1 ∧ (f x).2 ≤ ((xs.map f).foldl hull s).2) ∧
    (((xs.map f).foldl hull s).1 = s.1 ∨ ∃ x ∈ xs, ((xs.map f).foldl hull s).1 = (f x).1) ∧ (((xs.map f).foldl hull s).2 = s.2 ∨ ∃ x ∈ xs, ((xs.map f).foldl hull s).2 = (f x).2)
  | [], s => by simp
  | x :: xs, s => by
    obtain ⟨h1, h2, h3, h4, h5⟩ := fold_spec f xs (hull s (f x))
    obtain ⟨g1, g2, g3, g4, g5, g6⟩ := hull_le s (f x)
    simp only [List.map_cons, List.foldl_cons]
    refine ⟨by omega, by omega, ?_, ?_, ?_⟩
    · intro y hy
      rcases List.mem_cons.1 hy with rfl | hy
      · exact ⟨by omega, by omega⟩
      · exact h3 y hy
    · rcases h4 with h4 | ⟨y, hy, h4⟩
      · rcases g5 with g5 | g5
        · exact .inl (h4.trans g5)
        · exact .inr ⟨x, List.mem_cons_self, h4.trans g5⟩
      · exact .inr ⟨y, List.mem_cons_of_mem _ hy, h4⟩
    · rcases h5 with h5 | ⟨y, hy, h5⟩
      · rcases g6 with g6 | g6
        · exact .inl (h5.trans g6)
        · exact .inr ⟨x, List.mem_cons_self, h5.trans g6⟩
      · exact .inr ⟨y, List.mem_cons_of_mem _ hy, h5⟩
theorem sumS_spec (b0 b1 f0 f1 j0 j1 g0 g1 dr : Int) (l : List Int) (fr to_ : Int) (hg : g0 ≤ g1) :
    SumSpec (fun x => sumH false b0 b1 f0 f1 j0 j1 dr l fr x (to_ - fr).toNat) (fun x => sumH true b0 b1 f0 f1 j0 j1 dr l fr x (to_ - fr).toNat) g0 g1 (sumS b0 b1 f0 f1 j0 j1 g0 g1 dr l fr to_) := by
  unfold sumS
  obtain ⟨h1, h2, h3, h4, h5⟩ := fold_spec (spanAt b0 b1 f0 f1 j0 j1 dr l fr (to_ - fr).toNat) (upFrom (g0 + 1) (g1 - g0).toNat) (spanAt b0 b1 f0 f1 j0 j1 dr l fr (to_ - fr).toNat g0)
  refine ⟨fun x x0 x1 => ?_, fun x x0 x1 => ?_, ?_, ?_⟩
  · by_cases hx : x = g0
    · rw [hx]; exact h1
    · exact (h3 x ((mem_upFrom _ _ _).2 (by omega))).1
  · by_cases hx : x = g0
    · rw [hx]; exact h2
    · exact (h3 x ((mem_upFrom _ _ _).2 (by omega))).2
  · rcases h4 with h4 | ⟨x, hx, h4⟩
    · exact ⟨g0, Int.le_refl _, hg, h4⟩
    · have := (mem_upFrom _ _ _).1 hx
      exact ⟨x, by omega, by omega, h4⟩
  · rcases h5 with h5 | ⟨x, hx, h5⟩
    · exact ⟨g0, Int.le_refl _, hg, h5⟩
    · have := (mem_upFrom _ _ _).1 hx
      exact ⟨x, by omega, by omega, h5⟩
/-! ### the first second, at one lag -/
/-- a second at which the level may be reached first -/
def Reach (hi lo : Int → Int) (lv d i : Int) : Prop := 0 ≤ i ∧ i < d ∧ lv ≤ hi i ∧ ∀ j, 0 ≤ j → j < i → lo j < lv
def OptSpec (R : Int → Prop) : Option (Int × Int) → Prop
  | none => ∀ i, ¬ R i
  | some p => R p.1 ∧ R p.2 ∧ ∀ i, R i → p.1 ≤ i ∧ i ≤ p.2
theorem OptSpec.same {R : Int → Prop} {o p : Option (Int × Int)} (h : OptSpec R o) (h' : OptSpec R p) : o = p := by
  cases o with
  | none =>
    cases p with
    | none => rfl
    | some p => exact absurd h'.1 (h _)
  | some o =>
    cases p with
    | none => exact absurd h.1 (h' _)
    | some p =>
      have a1 := h.2.2 _ h'.1
      have a2 := h.2.2 _ h'.2.1
      have a3 := h'.2.2 _ h.1
      have a4 := h'.2.2 _ h.2.1
      congr 1
      ext <;> omega
theorem OptSpec.iff {R R' : Int → Prop} {o : Option (Int × Int)} (h : OptSpec R o) (e : ∀ i, R i ↔ R' i) : OptSpec R' o := by
  have : R = R' := funext fun i => propext (e i)
  exact this ▸ h
def oneF (hi lo : Int → Int) (lv : Int) : Nat → Option (Int × Int) × Bool
  | 0 => (none, false)
  | k + 1 =>
    let r := oneF hi lo lv k
    if r.2 then r else if hi k < lv then r else (some (hullAt r.1 k), decide (lv ≤ lo k))
theorem oneF_spec (hi lo : Int → Int) (lv : Int) (hlo : ∀ j, lo j ≤ hi j) : ∀ k : Nat, OptSpec (Reach hi lo lv k) (oneF hi lo lv k).1 ∧ ((oneF hi lo lv k).2 = true ↔ ∃ j, 0 ≤ j ∧ j < (k : Int) ∧ lv ≤ lo j)
  | 0 => by
    refine ⟨fun i h => ?_, ?_⟩
    · have := h.1; have := h.2.1; omega
    · simp [oneF]; omega
  | k + 1 => by
    obtain ⟨h1, h2⟩ := oneF_spec hi lo lv hlo k
    simp only [oneF]
    by_cases hs : (oneF hi lo lv k).2 = true
    · rw [if_pos hs]
      obtain ⟨j, j0, j1, j2⟩ := h2.1 hs
      refine ⟨h1.iff fun i => ⟨fun h => ⟨h.1, by have := h.2.1; omega, h.2.2⟩, fun h => ⟨h.1, ?_, h.2.2⟩⟩, fun _ => ⟨j, j0, by omega, j2⟩, fun _ => hs⟩
      have := h.2.1
      by_cases e : i < k
      · exact e
      · have := h.2.2.2 j j0 (by omega)
        omega
    · rw [if_neg hs]
      have hno : ∀ j, 0 ≤ j → j < (k : Int) → lo j < lv := by
        intro j j0 j1
        by_cases e : lo j < lv
        · exact e
        · exact absurd (h2.2 ⟨j, j0, j1, by omega⟩) hs
      by_cases hh : hi k < lv
      · rw [if_pos hh]
        refine ⟨h1.iff fun i => ⟨fun h => ⟨h.1, by have := h.2.1; omega, h.2.2⟩, fun h => ⟨h.1, ?_, h.2.2⟩⟩, ?_⟩
        · have := h.2.1
          have := h.2.2.1
          by_cases e : i = k
          · rw [e] at this; omega
          · omega
        · rw [h2]
          constructor
          · rintro ⟨j, j0, j1, j2⟩
            exact ⟨j, j0, by omega, j2⟩
          · rintro ⟨j, j0, j1, j2⟩
            refine ⟨j, j0, ?_, j2⟩
            by_cases e : j = k
            · have := hlo k; rw [e] at j2; omega
            · omega
      · rw [if_neg hh]
        have hk : Reach hi lo lv ((k + 1 : Nat) : Int) k := ⟨by omega, by omega, by omega, hno⟩
        have hup : ∀ i, Reach hi lo lv k i → Reach hi lo lv ((k + 1 : Nat) : Int) i := fun i h => ⟨h.1, by have := h.2.1; omega, h.2.2⟩
        have hdn : ∀ i, Reach hi lo lv ((k + 1 : Nat) : Int) i → i = k ∨ Reach hi lo lv k i := by
          intro i h
          have := h.2.1
          by_cases e : i = k
          · exact .inl e
          · exact .inr ⟨h.1, by omega, h.2.2⟩
        refine ⟨?_, ?_⟩
        · cases ho : (oneF hi lo lv k).1 with
          | none =>
            rw [ho] at h1
            refine ⟨hk, hk, fun i h => ?_⟩
            rcases hdn i h with rfl | h
            · exact ⟨Int.le_refl _, Int.le_refl _⟩
            · exact absurd h (h1 i)
          | some p =>
            rw [ho] at h1
            obtain ⟨p1, p2, p3⟩ := h1
            have hp1 := p1.2.1
            have hp2 := p2.2.1
            obtain ⟨q1, q2, q3, q4, q5, q6⟩ := hull_le p (k, k)
            simp only at q1 q2 q3 q4 q5 q6
            show OptSpec _ (some (hull p (k, k)))
            refine ⟨?_, ?_, fun i h => ?_⟩
            · rcases q5 with q5 | q5
              · rw [q5]; exact hup _ p1
              · rw [q5]; exact hk
            · rcases q6 with q6 | q6
              · rw [q6]; exact hup _ p2
              · rw [q6]; exact hk
            · rcases hdn i h with rfl | h
              · exact ⟨q2, q4⟩
              · have := p3 i h; omega
        · simp only [decide_eq_true_eq]
          constructor
          · intro h
            exact ⟨k, by omega, by omega, h⟩
          · rintro ⟨j, j0, j1, j2⟩
            by_cases e : j = k
            · rw [← e]; exact j2
            · have := hno j j0 (by omega)
              omega
/-! ### over all lags -/
theorem imSet_new {β : Type} (x : Int) (v : β) : ∀ m : List (Int × β), imGet x m = none → imSet x v m = m ++ [(x, v)]
  | [], _ => rfl
  | p :: r, h => by
    unfold imGet at h
    split at h
    · simp at h
    · rename_i hp
      simp only [imSet, hp, ↓reduceIte, imSet_new x v r h, List.cons_append]
theorem imSet_twice {β : Type} (x : Int) (v v' : β) : ∀ m : List (Int × β), imSet x v' (imSet x v m) = imSet x v' m
  | [] => by simp [imSet]
  | p :: r => by
    by_cases hp : p.1 = x
    · simp [imSet, hp]
    · simp [imSet, hp, imSet_twice x v v' r]
theorem imGet_same {β : Type} (x : Int) (v : β) : ∀ m : List (Int × β), imGet x (imSet x v m) = some v
  | [] => by simp [imGet, imSet]
  | p :: r => by
    by_cases hp : p.1 = x
    · simp [imGet, imSet, hp]
    · simp [imGet, imSet, hp, imGet_same x v r]
theorem imGet_other {β : Type} (x y : Int) (hxy : y ≠ x) (v : β) : ∀ m : List (Int × β), imGet y (imSet x v m) = imGet y m
  | [] => by simp [imGet, imSet]; omega
  | p :: r => by
    by_cases hp : p.1 = x
    · simp [imGet, imSet, hp]
      rw [if_neg (by omega), if_neg (by omega)]
    · simp [imGet, imSet, hp, imGet_other x y hxy v r]
def putO (x : Int) (m : List (Int × (Int × Int))) : Option (Int × Int) → List (Int × (Int × Int))
  | none => m
  | some s => imSet x s m
theorem scanF_one (hi lo : Int → Int) (lv x : Int) (m : List (Int × (Int × Int))) (hx : imGet x m = none) : ∀ k : Nat, scanF hi lo lv x m k = (putO x m (oneF hi lo lv k).1, (oneF hi lo lv k).2)
  | 0 => rfl
  | k + 1 => by
    have ih := scanF_one hi lo lv x m hx k
    simp only [scanF, oneF, ih]
    by_cases hs : (oneF hi lo lv k).2 = true
    · simp only [if_pos hs]
    · simp only [if_neg hs]
      by_cases hh : hi k < lv
      · simp only [if_pos hh]
      · simp only [if_neg hh]
        cases (oneF hi lo lv k).1 with
        | none => simp only [putO, hx, hullAt]
        | some s => simp only [putO, imGet_same, hullAt, imSet_twice]
theorem putO_other (x y : Int) (hxy : y ≠ x) (m : List (Int × (Int × Int))) (o : Option (Int × Int)) : imGet y (putO x m o) = imGet y m := by
  cases o with
  | none => rfl
  | some s => exact imGet_other x y hxy s m
theorem putO_vals (x : Int) (m : List (Int × (Int × Int))) (hx : imGet x m = none) (o : Option (Int × Int)) : (putO x m o).map (·.2) = m.map (·.2) ++ o.toList := by
  cases o with
  | none => simp [putO]
  | some s => simp [putO, imSet_new x s m hx]
section lags
variable (b0 b1 f0 f1 j0 j1 g0 g1 dr : Int) (l : List Int) (lv sc : Int)
/-- the greatest, and the least heat of a second, at a lag -/
def hiA (x i : Int) : Int := heatF true b0 b1 f0 f1 j0 j1 dr (rd l (i + x))
def loA (x i : Int) : Int := heatF false b0 b1 f0 f1 j0 j1 dr (rd l (i + x))
def oneA (x : Int) : Option (Int × Int) × Bool := oneF (hiA b0 b1 f0 f1 j0 j1 dr l x) (loA b0 b1 f0 f1 j0 j1 dr l x) lv sc.toNat
theorem lagF_one (st : List (Int × (Int × Int)) × Int) (x : Int) (hx : imGet x st.1 = none) :
    lagF b0 b1 f0 f1 j0 j1 g0 g1 dr l lv sc st x = (putO x st.1 (oneA b0 b1 f0 f1 j0 j1 dr l lv sc x).1, if (oneA b0 b1 f0 f1 j0 j1 dr l lv sc x).2 then st.2 + 1 else st.2) := by
  unfold lagF
  simp only
  rw [scanF_one _ _ lv x st.1 hx sc.toNat]
  rfl
theorem lags_fold : ∀ (xs : List Int) (st : List (Int × (Int × Int)) × Int), xs.Nodup → (∀ x ∈ xs, imGet x st.1 = none) →
    ((xs.foldl (lagF b0 b1 f0 f1 j0 j1 g0 g1 dr l lv sc) st).1.map (·.2) = st.1.map (·.2) ++ xs.filterMap fun x => (oneA b0 b1 f0 f1 j0 j1 dr l lv sc x).1) ∧
    ((xs.foldl (lagF b0 b1 f0 f1 j0 j1 g0 g1 dr l lv sc) st).2 = st.2 + (xs.countP fun x => (oneA b0 b1 f0 f1 j0 j1 dr l lv sc x).2 : Nat))
  | [], st, _, _ => by simp
  | x :: xs, st, hn, hx => by
    have hn' := List.nodup_cons.1 hn
    have hx0 := hx x List.mem_cons_self
    have ih := lags_fold xs (lagF b0 b1 f0 f1 j0 j1 g0 g1 dr l lv sc st x) hn'.2 (fun y hy => by
      rw [lagF_one b0 b1 f0 f1 j0 j1 g0 g1 dr l lv sc st x hx0]
      rw [putO_other x y (fun e => hn'.1 (e ▸ hy))]
      exact hx y (List.mem_cons_of_mem _ hy))
    simp only [List.foldl_cons]
    rw [ih.1, ih.2, lagF_one b0 b1 f0 f1 j0 j1 g0 g1 dr l lv sc st x hx0]
    constructor
    · simp only [putO_vals x st.1 hx0, List.filterMap_cons, List.append_assoc]
      cases (oneA b0 b1 f0 f1 j0 j1 dr l lv sc x).1 <;> simp
    · simp only [List.countP_cons]
      cases (oneA b0 b1 f0 f1 j0 j1 dr l lv sc x).2 <;> simp <;> omega
end lags
theorem hullL_spec (f : Int → Option (Int × Int)) (R : Int → Int → Prop) : ∀ xs : List Int, (∀ x ∈ xs, OptSpec (R x) (f x)) → OptSpec (fun i => ∃ x ∈ xs, R x i) (hullL (xs.filterMap f))
  | [], _ => by
    intro i h
    simp at h
  | x :: xs, h => by
    have ih := hullL_spec f R xs (fun y hy => h y (List.mem_cons_of_mem _ hy))
    have hx := h x List.mem_cons_self
    simp only [List.filterMap_cons]
    cases hf : f x with
    | none =>
      rw [hf] at hx
      refine ih.iff fun i => ⟨fun ⟨y, hy, r⟩ => ⟨y, List.mem_cons_of_mem _ hy, r⟩, fun ⟨y, hy, r⟩ => ?_⟩
      rcases List.mem_cons.1 hy with rfl | hy
      · exact absurd r (hx i)
      · exact ⟨y, hy, r⟩
    | some p =>
      rw [hf] at hx
      obtain ⟨p1, p2, p3⟩ := hx
      show OptSpec _ (hullO p (hullL (xs.filterMap f)))
      cases hq : hullL (xs.filterMap f) with
      | none =>
        rw [hq] at ih
        refine ⟨⟨x, List.mem_cons_self, p1⟩, ⟨x, List.mem_cons_self, p2⟩, fun i ⟨y, hy, r⟩ => ?_⟩
        rcases List.mem_cons.1 hy with rfl | hy
        · exact p3 i r
        · exact absurd ⟨y, hy, r⟩ (ih i)
      | some q =>
        rw [hq] at ih
        obtain ⟨⟨y1, hy1, q1⟩, ⟨y2, hy2, q2⟩, q3⟩ := ih
        obtain ⟨e1, e2, e3, e4, e5, e6⟩ := hull_le p q
        refine ⟨?_, ?_, fun i ⟨y, hy, r⟩ => ?_⟩
        · rcases e5 with e | e
          · show ∃ z ∈ x :: xs, R z (hull p q).1
            rw [e]; exact ⟨x, List.mem_cons_self, p1⟩
          · show ∃ z ∈ x :: xs, R z (hull p q).1
            rw [e]; exact ⟨y1, List.mem_cons_of_mem _ hy1, q1⟩
        · rcases e6 with e | e
          · show ∃ z ∈ x :: xs, R z (hull p q).2
            rw [e]; exact ⟨x, List.mem_cons_self, p2⟩
          · show ∃ z ∈ x :: xs, R z (hull p q).2
            rw [e]; exact ⟨y2, List.mem_cons_of_mem _ hy2, q2⟩
        · rcases List.mem_cons.1 hy with rfl | hy
          · have := p3 i r; omega
          · have := q3 i ⟨y, hy, r⟩; omega
theorem upFrom_nodup (a : Int) (n : Nat) : (upFrom a n).Nodup := by
  unfold upFrom
  rw [List.nodup_iff_pairwise_ne, List.pairwise_map]
  exact List.nodup_range.imp (fun h e => h (by omega))
/-- what First tells -/
structure FirstSpec (hi lo : Int → Int → Int) (lv sc g0 g1 a b n : Int) : Prop where
  known : n = 0 ∨ n = 1 ∨ n = 2
  no : n = 0 → a = 0 ∧ b = 0 ∧ ∀ x i, g0 ≤ x → x ≤ g1 → ¬ Reach (hi x) (lo x) lv sc i
  first : n ≠ 0 → ∃ x, g0 ≤ x ∧ x ≤ g1 ∧ Reach (hi x) (lo x) lv sc a
  last : n ≠ 0 → ∃ x, g0 ≤ x ∧ x ≤ g1 ∧ Reach (hi x) (lo x) lv sc b
  all : ∀ x i, g0 ≤ x → x ≤ g1 → Reach (hi x) (lo x) lv sc i → n ≠ 0 ∧ a ≤ i ∧ i ≤ b
  sure : n = 2 ↔ ∀ x, g0 ≤ x → x ≤ g1 → ∃ j, 0 ≤ j ∧ j < sc ∧ lv ≤ lo x j
theorem FirstSpec.same {hi lo : Int → Int → Int} {lv sc g0 g1 a b n a' b' n' : Int} (h : FirstSpec hi lo lv sc g0 g1 a b n) (h' : FirstSpec hi lo lv sc g0 g1 a' b' n') : a = a' ∧ b = b' ∧ n = n' := by
  have k := h.known
  have k' := h'.known
  have s : n = 2 ↔ n' = 2 := h.sure.trans h'.sure.symm
  by_cases e : n = 0
  · obtain ⟨rfl, rfl, hh⟩ := h.no e
    by_cases e' : n' = 0
    · obtain ⟨rfl, rfl, _⟩ := h'.no e'
      exact ⟨rfl, rfl, by omega⟩
    · obtain ⟨x, x0, x1, r⟩ := h'.first e'
      exact absurd r (hh x _ x0 x1)
  · by_cases e' : n' = 0
    · obtain ⟨_, _, hh⟩ := h'.no e'
      obtain ⟨x, x0, x1, r⟩ := h.first e
      exact absurd r (hh x _ x0 x1)
    · obtain ⟨x, x0, x1, r⟩ := h.first e
      obtain ⟨y, y0, y1, q⟩ := h.last e
      obtain ⟨x', x0', x1', r'⟩ := h'.first e'
      obtain ⟨y', y0', y1', q'⟩ := h'.last e'
      have a1 := h.all _ _ x0' x1' r'
      have a2 := h.all _ _ y0' y1' q'
      have a3 := h'.all _ _ x0 x1 r
      have a4 := h'.all _ _ y0 y1 q
      omega
theorem heat_lo_hi {b0 b1 f0 f1 j0 j1 g0 g1 dr : Int} (hH : HoodOK b0 b1 f0 f1 j0 j1 g0 g1 dr) (y : Int) : 0 ≤ heatF false b0 b1 f0 f1 j0 j1 dr y ∧ heatF false b0 b1 f0 f1 j0 j1 dr y ≤ heatF true b0 b1 f0 f1 j0 j1 dr y := by
  obtain ⟨⟨hb0, hb1, hb2⟩, ⟨hf0, hf1, hf2⟩, ⟨hj0, hj1, hj2⟩, -, hd0, hd1⟩ := hH
  unfold heatF missF sel sgn mx
  simp only [Bool.false_eq_true, if_false, if_true]
  have m0 : 0 ≤ (if 0 < b0 - y - dr then b0 - y - dr else 0) := by split <;> omega
  have m1 : (if 0 < b0 - y - dr then b0 - y - dr else 0) ≤ (if 0 < b1 - y - -dr then b1 - y - -dr else 0) := by (repeat' split) <;> omega
  have p0 : 0 ≤ j0 * f0 := Int.mul_nonneg hj0 hf0
  have p1 : j0 * f0 ≤ j1 * f1 := Int.mul_le_mul hj1 hf1 hf0 (by omega)
  exact ⟨Int.mul_nonneg p0 m0, Int.mul_le_mul p1 m1 m0 (by omega)⟩
theorem secS_eq {b0 b1 f0 f1 j0 j1 g0 g1 dr : Int} (hH : HoodOK b0 b1 f0 f1 j0 j1 g0 g1 dr) {l : List Int} (hl : l.length ≤ 1000) : secS g1 l.length = max 0 ((l.length : Int) - g1) := by
  obtain ⟨-, -, -, ⟨hg0, hg1, hg2⟩, -⟩ := hH
  unfold secS mx wrap64
  split <;> omega
theorem firstG_spec {b0 b1 f0 f1 j0 j1 g0 g1 dr : Int} (hH : HoodOK b0 b1 f0 f1 j0 j1 g0 g1 dr) {l : List Int} (hl : ReadsOK l) (lv : Int) :
    ∃ a b n, firstG b0 b1 f0 f1 j0 j1 g0 g1 dr l lv = some (a, b, n) ∧ FirstSpec (hiA b0 b1 f0 f1 j0 j1 dr l) (loA b0 b1 f0 f1 j0 j1 dr l) lv (max 0 ((l.length : Int) - g1)) g0 g1 a b n := by
  have hg : g0 ≤ g1 := hH.2.2.2.1.2.1
  have hsec : secS g1 l.length = max 0 ((l.length : Int) - g1) := secS_eq hH (by have := hl.1; omega)
  unfold firstG
  rw [if_pos ⟨hH, hl⟩, hsec]
  obtain ⟨e1, e2⟩ := lags_fold b0 b1 f0 f1 j0 j1 g0 g1 dr l lv (max 0 ((l.length : Int) - g1)) (upFrom g0 (g1 - g0 + 1).toNat) ([], 0) (upFrom_nodup _ _) (fun _ _ => rfl)
  change (lagsF b0 b1 f0 f1 j0 j1 g0 g1 dr l lv (max 0 ((l.length : Int) - g1)) (upFrom g0 (g1 - g0 + 1).toNat)).1.map (·.2) = _ at e1
  change (lagsF b0 b1 f0 f1 j0 j1 g0 g1 dr l lv (max 0 ((l.length : Int) - g1)) (upFrom g0 (g1 - g0 + 1).toNat)).2 = _ at e2
  rw [e1, e2]
  simp only [List.map_nil, List.nil_append, Int.zero_add]
  have hone := fun x => oneF_spec (hiA b0 b1 f0 f1 j0 j1 dr l x) (loA b0 b1 f0 f1 j0 j1 dr l x) lv (fun j => (heat_lo_hi hH _).2) (max 0 ((l.length : Int) - g1)).toNat
  rw [show (((max 0 ((l.length : Int) - g1)).toNat : Nat) : Int) = max 0 ((l.length : Int) - g1) from by omega] at hone
  have hsp := hullL_spec (fun x => (oneA b0 b1 f0 f1 j0 j1 dr l lv (max 0 ((l.length : Int) - g1)) x).1) (fun x => Reach (hiA b0 b1 f0 f1 j0 j1 dr l x) (loA b0 b1 f0 f1 j0 j1 dr l x) lv (max 0 ((l.length : Int) - g1))) (upFrom g0 (g1 - g0 + 1).toNat) (fun x _ => (hone x).1)
  have hmem : ∀ x, x ∈ upFrom g0 (g1 - g0 + 1).toNat ↔ g0 ≤ x ∧ x ≤ g1 := fun x => by rw [mem_upFrom]; omega
  have hlen : ((upFrom g0 (g1 - g0 + 1).toNat).length : Int) = g1 - g0 + 1 := by simp [upFrom]; omega
  have hcnt : ((List.countP (fun x => (oneA b0 b1 f0 f1 j0 j1 dr l lv (max 0 ((l.length : Int) - g1)) x).2) (upFrom g0 (g1 - g0 + 1).toNat) : Nat) : Int) = g1 - g0 + 1 ↔ ∀ x, g0 ≤ x → x ≤ g1 → ∃ j, 0 ≤ j ∧ j < max 0 ((l.length : Int) - g1) ∧ lv ≤ loA b0 b1 f0 f1 j0 j1 dr l x j := by
    constructor
    · intro h x x0 x1
      have h2 : List.countP (fun x => (oneA b0 b1 f0 f1 j0 j1 dr l lv (max 0 ((l.length : Int) - g1)) x).2) (upFrom g0 (g1 - g0 + 1).toNat) = (upFrom g0 (g1 - g0 + 1).toNat).length := by omega
      have h' := List.countP_eq_length.1 h2 x ((hmem x).2 ⟨x0, x1⟩)
      exact (hone x).2.1 h'
    · intro h
      have h2 : List.countP (fun x => (oneA b0 b1 f0 f1 j0 j1 dr l lv (max 0 ((l.length : Int) - g1)) x).2) (upFrom g0 (g1 - g0 + 1).toNat) = (upFrom g0 (g1 - g0 + 1).toNat).length := by
        refine List.countP_eq_length.2 fun x hx => ?_
        have := (hmem x).1 hx
        exact (hone x).2.2 (h x this.1 this.2)
      omega
  generalize hE : hullL (List.filterMap (fun x => (oneA b0 b1 f0 f1 j0 j1 dr l lv (max 0 ((l.length : Int) - g1)) x).1) (upFrom g0 (g1 - g0 + 1).toNat)) = E at hsp
  cases E with
  | none =>
    have hno : ∀ x i, g0 ≤ x → x ≤ g1 → ¬ Reach (hiA b0 b1 f0 f1 j0 j1 dr l x) (loA b0 b1 f0 f1 j0 j1 dr l x) lv (max 0 ((l.length : Int) - g1)) i := fun x i x0 x1 r => hsp i ⟨x, (hmem x).2 ⟨x0, x1⟩, r⟩
    refine ⟨0, 0, 0, rfl, .inl rfl, fun _ => ⟨rfl, rfl, hno⟩, fun h => absurd rfl h, fun h => absurd rfl h, fun x i x0 x1 r => absurd r (hno x i x0 x1), ⟨fun h => by omega, fun h => ?_⟩⟩
    -- a second that surely reaches it: the first of those at this lag can be the first
    exfalso
    have hs := (hone g0).2.2 (h g0 (Int.le_refl _) hg)
    have ho := (hone g0).1
    cases hc : (oneF (hiA b0 b1 f0 f1 j0 j1 dr l g0) (loA b0 b1 f0 f1 j0 j1 dr l g0) lv (max 0 ((l.length : Int) - g1)).toNat).1 with
    | some p => rw [hc] at ho; exact hno g0 _ (Int.le_refl _) hg ho.1
    | none =>
      have : ∀ (hi lo : Int → Int) (k : Nat), (oneF hi lo lv k).2 = true → (oneF hi lo lv k).1 ≠ none := by
        intro hi lo k
        induction k with
        | zero => intro h; simp [oneF] at h
        | succ k ih =>
          simp only [oneF]
          split
          · exact ih
          · split
            · exact ih
            · intro _; simp
      exact this _ _ _ hs hc
  | some p =>
    obtain ⟨⟨x, hx, p1⟩, ⟨y, hy, p2⟩, p3⟩ := hsp
    have hx' := (hmem x).1 hx
    have hy' := (hmem y).1 hy
    refine ⟨p.1, p.2, _, rfl, ?_, fun h => ?_, fun _ => ⟨x, hx'.1, hx'.2, p1⟩, fun _ => ⟨y, hy'.1, hy'.2, p2⟩, fun z i z0 z1 r => ⟨?_, p3 i ⟨z, (hmem z).2 ⟨z0, z1⟩, r⟩⟩, ?_⟩
    · split <;> simp
    · split at h <;> simp at h
    · split <;> simp
    · rw [← hcnt]
      split <;> rename_i h <;> simp [h]
end Go.Proofs.YtaijhbliagjeaaaDoor
namespace Go.Proofs.YtaijhbliagjeaaaDoor.PR
open Go.RowKit Go.Proofs.YtaijhbliagjeaaaDoorW.PrintWords Go.Proofs.YtaijhbliagjeaaaDoorW.PrintLast Go.Proofs.YtaijhbliagjeaaaDoorW.PrintMore
attribute [local go_sem] max2_int min2_int max_two min_two max_three min_three max_four min_four -- for this text's walks alone
set_option linter.unusedVariables false
set_option linter.unusedSimpArgs false
def errW : Option Int → Value
  | none => .nilIface
  | some c => .iface 0 (.int .i64 c)
theorem errW_none : errW none = .nilIface := rfl
theorem errW_some (c : Int) : errW (some c) = .iface 0 (.int .i64 c) := rfl
theorem A_ {P : Prop} (h : P) : Aside0 P := ⟨h⟩
theorem bk_ {Q R : Prop} (h : R) (k : R → Q := by intro h_; (with_reducible repeat (first | refine blk_drewN ?_ _ | refine blk_drew ?_ | refine blk_alloc ?_ _)); exact h_) : Q := k h
theorem bb_ {w w1 w2 : World} {g : Nat} {o : Obj} (h : w.heap[g]? = some o) (hb : Below w1.heap.size w1 w2) (k : w.heap[g]? = some o → w1.heap[g]? = some o := by intro h_; (with_reducible repeat (first | refine blk_drewN ?_ _ | refine blk_drew ?_ | refine blk_alloc ?_ _)); exact h_) : Aside0 (w2.heap[g]? = some o) := ⟨blk_below (k h) hb⟩
theorem kr_ {Q R : Prop} (h : R) (k : R → Q := by intro h_; (with_reducible repeat (first | apply Kd.R_alloc | apply Kd.R_drewN | apply Kd.R_drew)); exact h_) : Q := k h
theorem sT_ {α : Type} (l : List α) (i : Nat) (a : α) : l.toArray.setIfInBounds i a = (l.set i a).toArray := List.setIfInBounds_toArray ..
theorem s0_ {α : Type} (x a : α) (xs : List α) : (x :: xs).set 0 a = a :: xs := rfl
theorem sS_ {α : Type} (x a : α) (xs : List α) (n : Nat) : (x :: xs).set (n + 1) a = x :: xs.set n a := rfl
end Go.Proofs.YtaijhbliagjeaaaDoor.PR
