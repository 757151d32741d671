/- slices.Sort, slices.Sorted over a set's keys: the members in rising order. / The library's -/
import Derived.Test.YtommeljlfkmpjaaDoorPkLawOriginExamples7
import Derived.Sort.OwnSortedInts
import Derived.Test.YtommeljlfkmpjaaDoorPkLawOriginExamples2
import Derived.Shelf.Small.Bits
import Derived.Shelf.Lays
import Derived.Test.YtommeljlfkmpjaaDoorPkLawOriginExamples3
set_option linter.unusedVariables false
set_option linter.unusedSimpArgs false
namespace Go.Proofs.YtommeljlfkmpjaaDoor
open Go.RowKit
def sortF (xs : List Int) : List Int := xs.mergeSort fun x y => decide (x ≤ y)
theorem sortF_len (xs : List Int) : (sortF xs).length = xs.length := by simp [sortF]
theorem sort_enters : ∀ args w, (callFunc 54 args).run Tryd.prog w = .ok (.enter 54 args) w := enters_of Tryd.func54 (by kernel_rfl) rfl
theorem sort_calls (b cap : Nat) (xs : List Int) (w : World) (o : Obj) (h1 : w.heap[b]? = some o) (h2 : orow 3 1 xs.length cap (xs.map (.int .i64)) o) (hl : xs.length ≤ 1000000) :
  Calls Tryd.prog 54 #[.slice (some ⟨b, 0, none⟩) xs.length cap] w fun e w' => e = .returned (.tuple #[]) ∧ Kx (fun k => k = b) w w' ∧ ∃ o', w'.heap[b]? = some o' ∧ orow 3 1 xs.length cap ((sortF xs).map (.int .i64)) o' := by
 obtain ⟨cur, rfl, h5, h6, h7, h8⟩ := h2
 rw [Nat.mul_one] at h7 h8
 have hlt : b < w.heap.size := (Array.getElem?_eq_some_iff.1 h1).1
 have hc := Any.slices_Sort_int lays189 b 0 cap xs w (holds_of_blockI h1 h8) hlt (by omega)
 refine Calls.mono (show Calls Tryd.prog 54 _ _ _ from hc) ?_
 rintro e w' ⟨rfl, n, os, rfl⟩
 have hg := grownBy_sortedI (w := w) (g := b) (n := n) (os := os) (xs.mergeSort fun x y => decide (x ≤ y)).toArray
 refine ⟨rfl, ⟨hg.os, hg.tape, hg.output, hg.size, fun k hk hne => hg.block k hk (fun q => hne (Option.some.inj q))⟩, _, heap_sortedI _ h1, _, rfl, h5, h6, ?_, ?_⟩
 ·rw [Nat.mul_one, ← h7]
  simp [Sort.putCells]
 ·rw [Nat.mul_one]
  have := take_putCellsI cur (sortF xs) (by rw [sortF_len]; omega)
  rw [sortF_len] at this
  exact this
theorem sortF_perm {l l' : List Int} (h : l.Perm l') : sortF l = sortF l' := by
 have tr : ∀ a b c : Int, decide (a ≤ b) = true → decide (b ≤ c) = true → decide (a ≤ c) = true := fun a b c h1 h2 => by simp at *; omega
 have tot : ∀ a b : Int, (decide (a ≤ b) || decide (b ≤ a)) = true := fun a b => by simp; omega
 refine List.Perm.eq_of_pairwise (le := fun a b => decide (a ≤ b) = true) (fun a b _ _ h1 h2 => ?_) (List.pairwise_mergeSort tr tot l) (List.pairwise_mergeSort tr tot l') (((List.mergeSort_perm l _).trans h).trans (List.mergeSort_perm l' _).symm)
 simp only [decide_eq_true_eq] at h1 h2
 omega
theorem keys_enters : ∀ args w, (callFunc 30 args).run Tryd.prog w = .ok (.enter 30 args) w := enters_of Tryd.func30 (by kernel_rfl) rfl
theorem keys_calls (M0 : Nat) (w : World) :
  Calls Tryd.prog 30 #[.map (some M0)] w fun e w' => ∃ B, e = .returned (.func (.func 55) #[] #[.pointer (some ⟨B, 0, none⟩)]) ∧ w.heap.size ≤ B ∧ w'.heap[B]? = some (.cells #[.map (some M0)] 65 (0, 0)) ∧ Below w.heap.size w w' := by
 refine x_calls (X := XNone) Tryd.func30 rfl rfl rfl ?_
 with_reducible ((repeat apply xc_seq); apply xcR)
 refine xo_box rfl rfl rfl rfl (fun b1 => ?_)
 refine xoA ?_
 with_reducible (apply xo_nil; (repeat first | apply xqT | apply xqB | apply xqS); (repeat apply xc_seq); apply xcR)
 refine xo_mkf rfl rfl rfl rfl ?_
 refine xoA ?_
 with_reducible (apply xo_nil; (repeat first | apply xqT | apply xqB | apply xqS); (repeat apply xc_seq); apply xc_ret; (repeat (first | apply xq_thenR | apply xq_blockR | apply xq_scopeR)))
 exact xq_ret1 rfl rfl fun w' hw => ⟨b1, rfl, hw.own (by repeat first | exact mH | apply mT | apply mA), hw.obj (wr := true) (cs := [.map (some M0)]) (by repeat first | exact mH | apply mT | apply mA), hw.kx.below⟩
end Go.Proofs.YtommeljlfkmpjaaDoor
namespace Go.Proofs.YtommeljlfkmpjaaDoor
open Go.Shelf Go.RowKit
set_option maxRecDepth 100000
def ren125 : Ren := ⟨fun n => bif Nat.beq n 125 then 83 else bif Nat.beq n 128 then 99 else bif Nat.beq n 129 then 100 else n, fun n => bif Nat.beq n 3 then 3 else bif Nat.beq n 4 then 4 else bif Nat.beq n 5 then 5 else bif Nat.beq n 9 then 9 else bif Nat.beq n 46 then 123 else bif Nat.beq n 51 then 141 else bif Nat.beq n 53 then 143 else n, fun n => n⟩
theorem lays125 : Lays.n125 Tryd.prog ren125 where
 mixed := T_.mixed
 f125 := by kernel_rfl
 f128 := by kernel_rfl
 f129 := by kernel_rfl
 t3 := by kernel_rfl
 a3 := fun w => by kernel_rfl
 z3 := fun w => by kernel_rfl
 v3 := fun w => by kernel_rfl
 t4 := by kernel_rfl
 a4 := fun w => by kernel_rfl
 z4 := fun w => by kernel_rfl
 v4 := fun w => by kernel_rfl
 t5 := by kernel_rfl
 a5 := fun w => by kernel_rfl
 z5 := fun w => by kernel_rfl
 v5 := fun w => by kernel_rfl
 t9 := by kernel_rfl
 a9 := fun w => by kernel_rfl
 z9 := fun w => by kernel_rfl
 v9 := fun w => by kernel_rfl
 t46 := by kernel_rfl
 a46 := fun w => by kernel_rfl
 z46 := fun w => by kernel_rfl
 v46 := fun w => by kernel_rfl
 t51 := by kernel_rfl
 a51 := fun w => by kernel_rfl
 z51 := fun w => by kernel_rfl
 v51 := fun w => by kernel_rfl
 t53 := by kernel_rfl
 a53 := fun w => by kernel_rfl
 z53 := fun w => by kernel_rfl
 v53 := fun w => by kernel_rfl
end Go.Proofs.YtommeljlfkmpjaaDoor
namespace Go.Proofs.YtommeljlfkmpjaaDoor
open Go.RowKit
theorem insertion_nil (w : World) : Calls Tryd.prog 90 #[.slice none 0 0, .int .i64 0, .int .i64 0] w fun e w' => e = .returned (.tuple #[]) ∧ Below w.heap.size w w' := by
 refine x_calls (X := XNone) Tryd.func90 rfl rfl rfl ?_
 with_reducible ((repeat apply xc_seq); apply xcR)
 refine xoM ?_
 refine xo_add rfl rfl rfl (by omega) rfl ?_
 refine xoA ?_
 with_reducible (apply xo_nil; (repeat first | apply xqT | apply xqB | apply xqS); (repeat apply xc_seq); apply xc_block)
 refine xc_loop (γ := Unit) (fun _ => True) (fun _ => [(2, .int .i64 0), (6, .int .i64 1)]) (fun _ => []) (fun _ => 0) () trivial ⟨rfl, rfl, trivial⟩ (List.Sublist.refl _) ?_
 rintro _ _
 with_reducible ((repeat apply xc_seq); apply xcR)
 refine xoM ?_
 refine xoM ?_
 refine xo_lss rfl rfl rfl rfl ?_
 with_reducible (apply xo_nil; (repeat first | apply xqT | apply xqB | apply xqS); (repeat apply xc_seq))
 refine xc_condF rfl ?_
 with_reducible (apply xc_exit; (repeat (first | apply xq_blockX | apply xq_thenE | refine xq_blockE rfl ?_ | apply xq_scopeE)))
 exact xq_end0 rfl fun w2 hw2 => ⟨rfl, hw2.kx.below⟩
theorem pdq_nil (x : Int) (w : World) : Calls Tryd.prog 82 #[.slice none 0 0, .int .i64 0, .int .i64 0, .int .i64 x] w fun e w' => e = .returned (.tuple #[]) ∧ Below w.heap.size w w' := by
 have eg := enters_of Tryd.func90 (by kernel_rfl) rfl
 refine x_calls (X := XNone) Tryd.func82 rfl rfl rfl ?_
 with_reducible ((repeat apply xc_seq); apply xcR)
 refine xoA ?_
 with_reducible (apply xo_nil; (repeat first | apply xqT | apply xqB | apply xqS); (repeat apply xc_seq); apply xcR)
 refine xoA ?_
 with_reducible (apply xo_nil; (repeat first | apply xqT | apply xqB | apply xqS); (repeat apply xc_seq); apply xc_block)
 refine xc_loop (γ := Unit) (fun _ => True) (fun _ => [(0, .slice none 0 0), (1, .int .i64 0), (2, .int .i64 0)]) (fun _ => []) (fun _ => 0) () trivial ⟨rfl, rfl, rfl, trivial⟩ (List.Sublist.refl _) ?_
 rintro _ _
 with_reducible ((repeat apply xc_seq); apply xc_block; (repeat apply xc_seq); apply xcR)
 refine xoM ?_
 refine xoM ?_
 refine xo_sub rfl rfl rfl (by omega) rfl ?_
 refine xoA ?_
 with_reducible (apply xo_nil; (repeat first | apply xqT | apply xqB | apply xqS); (repeat apply xc_seq); apply xcR)
 refine xoM ?_
 refine xo_leq rfl rfl rfl rfl ?_
 with_reducible (apply xo_nil; (repeat first | apply xqT | apply xqB | apply xqS); (repeat apply xc_seq))
 refine xc_condT rfl ?_
 with_reducible ((repeat apply xc_seq); apply xcR)
 refine xoM ?_
 refine xoM ?_
 refine xoM ?_
 refine xo_callB (fs := []) (cs := []) rfl rfl rfl eg rfl (fun w1 hw1 => insertion_nil w1) ?_
 with_reducible (apply xo_nil; (repeat first | apply xqT | apply xqB | apply xqS); (repeat apply xc_seq); apply xc_ret; (repeat (first | apply xq_thenR | apply xq_blockR | apply xq_scopeR)))
 exact xq_ret0 rfl fun w2 hw2 => ⟨rfl, hw2.kx.below⟩
theorem sort_nil (w : World) : Calls Tryd.prog 54 #[.slice none 0 0] w fun e w' => e = .returned (.tuple #[]) ∧ Below w.heap.size w w' := by
 have eg := enters_of Tryd.func82 (by kernel_rfl) rfl
 have eg2 := enters_of Tryd.func83 (by kernel_rfl) rfl
 refine x_calls (X := XNone) Tryd.func54 rfl rfl rfl ?_
 with_reducible ((repeat apply xc_seq); apply xcR)
 refine xoM ?_
 refine xo_len T_ rfl rfl rfl rfl ?_
 refine xoA ?_
 with_reducible (apply xo_nil; (repeat first | apply xqT | apply xqB | apply xqS); (repeat apply xc_seq); apply xcR)
 refine xoM ?_
 refine xoM ?_
 refine xoM ?_
 refine xo_conv T_ rfl rfl rfl rfl (by decide) rfl ?_
 refine xo_callB (fs := []) (cs := []) rfl rfl rfl eg2 rfl (fun w1 hw1 => (Any.bits_Len lays125 0 w1 (by omega) (by omega)).mono (fun e w' h => ⟨h.1, by rw [h.2]; exact Below.refl _ _⟩)) ?_
 refine xo_callB (fs := []) (cs := []) rfl rfl rfl eg rfl (fun w1 hw1 => pdq_nil _ w1) ?_
 with_reducible (apply xo_nil; (repeat first | apply xqT | apply xqB | apply xqS))
 exact xq_end0 rfl fun w2 hw2 => ⟨rfl, hw2.kx.below⟩
theorem collectS_enters : ∀ args w, (callFunc 53 args).run Tryd.prog w = .ok (.enter 53 args) w := enters_of Tryd.func53 (by kernel_rfl) rfl
theorem sorted_enters : ∀ args w, (callFunc 29 args).run Tryd.prog w = .ok (.enter 29 args) w := enters_of Tryd.func29 (by kernel_rfl) rfl
theorem sorted_calls (g : Nat) (cs : List Value) (eg : ∀ args w, (callFunc g args).run Tryd.prog w = .ok (.enter g args) w) (need : Nat → Prop) (s : List Int) (M : Nat) (w : World) (hit : IterS Tryd.prog g cs w need (fun ys => ys.Perm s) M) (hneed : ∀ k, need k → k < w.heap.size) (hlen : M ≤ 1000000) (hs : s.length ≤ 1000000) :
  Calls Tryd.prog 29 #[.func (.func g) #[] cs.toArray] w fun e w' => ∃ r : RowR, e = .returned (valR r (sortF s).length) ∧ RowAt 3 w.heap.size w' r (sortF s) ∧ Below w.heap.size w w' := by
 refine x_calls (X := XNone) Tryd.func29 rfl rfl rfl ?_
 with_reducible ((repeat apply xc_seq); apply xcR)
 refine xoA ?_
 with_reducible (apply xo_nil; (repeat first | apply xqT | apply xqB | apply xqS); (repeat apply xc_seq); apply xcR)
 refine xoM ?_
 refine xo_call (fs := []) (cs := []) rfl rfl rfl collectS_enters rfl (fun w1 hw1 => (collectS_calls g cs eg need _ M w1 (fun w2 h1 h2 => hit w2 (Nat.le_trans hw1.kx.size h1) (fun k hk => (h2 k hk).trans (hw1.kx.below.block k (hneed k hk)))) (fun k hk => Nat.lt_of_lt_of_le (hneed k hk) hw1.kx.size) hlen).mono ?_)
 rintro e w2 ⟨xs, r, hS, rfl, hrow, hb⟩
 have h0 := hrow.1
 refine ⟨_, _, rfl, hw1.row hb hrow, ?_⟩
 clear hrow hb hw1
 have hxl : xs.length = s.length := hS.length_eq
 have hsx : sortF s = sortF xs := (sortF_perm hS).symm
 refine xoA ?_
 with_reducible (apply xo_nil; (repeat first | apply xqT | apply xqB | apply xqS))
 rcases r with _ | ⟨b, cap⟩
 ·obtain rfl := h0 rfl
  with_reducible ((repeat apply xc_seq); apply xcR)
  refine xoM ?_
  refine xo_callB (fs := []) (cs := []) rfl rfl rfl sort_enters rfl (fun w1 hw1 => sort_nil w1) ?_
  with_reducible (apply xo_nil; (repeat first | apply xqT | apply xqB | apply xqS); (repeat apply xc_seq); apply xcR)
  refine xoM ?_
  refine xoA ?_
  with_reducible (apply xo_nil; (repeat first | apply xqT | apply xqB | apply xqS); (repeat apply xc_seq); apply xc_ret; (repeat (first | apply xq_thenR | apply xq_blockR | apply xq_scopeR)))
  refine xq_ret1 rfl rfl fun w' hw => ⟨none, rfl, ?_, hw.kx.below⟩
  rw [hsx]
  exact ⟨fun _ => by simp [sortF], fun p hp => by cases hp⟩
 ·with_reducible repeat apply xc_seq
  with_reducible apply xcR
  refine xoM ?_
  refine xo_call (fs := []) (cs := []) rfl rfl rfl sort_enters rfl (fun w1 hw1 => ?_)
  obtain ⟨o1, ho1, ho2⟩ := hw1.bl (b, true, orow 3 1 xs.length cap (xs.map (.int .i64))) (List.Mem.head _)
  refine (sort_calls b cap xs w1 o1 ho1 ho2 (by omega)).mono ?_
  rintro e w3 ⟨rfl, hk3, o3, ho3, ho4⟩
  refine ⟨_, _, rfl, hw1.updK (φ' := orow 3 1 xs.length cap ((sortF xs).map (.int .i64))) Upd.head hk3 ho3 ho4, ?_⟩
  clear ho3 ho4 hk3 ho1 ho2 hw1
  with_reducible (apply xo_nil; (repeat first | apply xqT | apply xqB | apply xqS); (repeat apply xc_seq); apply xcR)
  refine xoM ?_
  refine xoA ?_
  with_reducible (apply xo_nil; (repeat first | apply xqT | apply xqB | apply xqS); (repeat apply xc_seq); apply xc_ret; (repeat (first | apply xq_thenR | apply xq_blockR | apply xq_scopeR)))
  refine xq_ret1 rfl rfl fun w' hw => ⟨some (b, cap), by rw [hsx, sortF_len], ?_, hw.kx.below⟩
  rw [hsx]
  refine RowAt.of (η := []) ?_ (fun h => by cases h)
  rw [sortF_len]
  exact hw.sub (List.Sublist.cons_cons _ (List.nil_sublist _))
end Go.Proofs.YtommeljlfkmpjaaDoor
namespace Go.Proofs.YtommeljlfkmpjaaDoor
open Go.RowKit Go.Proofs.YtommeljlfkmpjaaDoorW.PrintWords
def dfl (e : Nat × Bool × HP) : Nat × Bool × HP := (e.1, false, e.2.2)
theorem WOK.deflag {w0 : World} {X : Nat → Prop} {ζ η : Hp} {w : World} (h : WOK w0 X (ζ ++ η) w) : WOK w0 X (ζ.map dfl ++ η) w := by
 refine ⟨h.kx, fun e he => ?_, ?_, fun e he hw => ?_⟩
 ·rcases List.mem_append.1 he with he | he
  ·obtain ⟨q, hq, rfl⟩ := List.mem_map.1 he
   exact h.bl q (List.mem_append_left _ hq)
  ·exact h.bl e (List.mem_append_right _ he)
 ·have := h.nd
  rw [List.map_append] at this ⊢
  rw [List.map_map]
  exact this
 ·rcases List.mem_append.1 he with he | he
  ·obtain ⟨q, _, rfl⟩ := List.mem_map.1 he
   cases hw
  ·exact h.ow e (List.mem_append_right _ he) hw
theorem siteH_own {bs : Nat} {sv : List Value} {R : Nat} {gs : List GatT} {pre : List DelT} {rf rw_ : RowR} : ∀ e ∈ siteH bs sv R gs pre rf rw_, e.2.1 = true ∧ ∀ o, e.2.2 o → o.isCells = true := by
 intro e he
 refine openH_own (b1 := 0) (b5 := 0) (bs := bs) (sv := sv) (R := R) (gs := gs) (pre := pre) (rf := rf) (rw_ := rw_) e ?_
 unfold siteH at he
 unfold openH
 rcases List.mem_append.1 he with he | he
 ·exact List.mem_append_left _ he
 rcases List.mem_append.1 he with he | he
 ·exact List.mem_append_right _ (List.mem_append_left _ he)
 refine List.mem_append_right _ (List.mem_append_right _ (List.mem_cons_of_mem _ ?_))
 rcases List.mem_cons.1 he with rfl | he
 ·exact List.mem_cons_self
 ·exact List.mem_cons_of_mem _ (List.mem_cons_of_mem _ he)
def InW (ζ : Hp) (w : World) : Prop := ∀ e ∈ ζ, ∃ o, w.heap[e.1]? = some o ∧ e.2.2 o
theorem WOK.inW {w0 : World} {X : Nat → Prop} {ζ η : Hp} {w : World} (h : WOK w0 X η w) (hs : ∀ e ∈ ζ, dfl e ∈ η) : InW ζ w := fun e he => h.bl (dfl e) (hs e he)
theorem flatM_at (R : Nat) (gs : List GatT) (pre : List DelT) (k j : Nat) {v : Value} (hk : k < pre.length) (hj : (matV (farM R gs ((pre.map (·.2)).getD k [])))[j]? = some v) : (flatM R gs pre)[k * 36 + j]? = some v := by
 have hj36 : j < 36 := by have := (List.getElem?_eq_some_iff.1 hj).1; rwa [matV_len] at this
 unfold flatM
 rw [flat_at 36 _ k j (by intro c hc; obtain ⟨x, _, rfl⟩ := List.mem_map.1 hc; exact matV_len _) hj36, List.getElem?_map, List.getElem?_eq_getElem hk]
 have : (pre.map (·.2)).getD k [] = pre[k].2 := by simp [List.getD_eq_getElem?_getD, List.getElem?_eq_getElem hk]
 rw [this] at hj
 simpa using hj
theorem siteR_of {w : World} {bs : Nat} {sv : List Value} {R : Nat} {gs : List GatT} {pre : List DelT} {fb fc : Nat} {rw_ : RowR} (h : InW (siteH bs sv R gs pre (some (fb, fc)) rw_) w) (hp : pre.map (·.2) = allD gs) : SiteR w bs fb fc sv (valR rw_ pre.length) R gs := by
 have hl : pre.length = (allD gs).length := by rw [← hp, List.length_map]
 have h1 := h (bs, true, cel (siteV sv (valR (some (fb, fc)) pre.length) (valR rw_ pre.length)) 83) (by unfold siteH; exact List.mem_append_right _ (List.mem_append_right _ (List.Mem.head _)))
 have h2 := h (fb, true, orow 102 36 pre.length fc (flatM R gs pre)) (by unfold siteH; exact List.mem_append_left _ (List.Mem.head _))
 obtain ⟨o1, ho1, hc1⟩ := h1
 obtain ⟨o2, ho2, cur, rfl, h5, h6, h7, h8⟩ := h2
 rw [show o1 = _ from hc1] at ho1
 refine ⟨ro_of fun j v hj => ?_, fun k hk => ro_of fun j v hj => ?_⟩
 ·rw [Addr.add_lit, Nat.zero_add, cell_of_row w bs j _ _ _ ho1]
  rw [← hl] at hj
  simpa [valR] using hj
 ·have hkp : k < pre.length := by omega
  have hx := flatM_at R gs pre k j hkp (by rw [hp]; exact hj)
  rw [add_add, Addr.add_lit, Nat.zero_add, cell_of_row w fb _ _ _ _ ho2, ← Array.getElem?_toList]
  rw [← h8, List.getElem?_take] at hx
  have h36 : (k : Int).toNat * szN 36 + j = k * 36 + j := by
   have q : szN 36 = 36 := rfl
   rw [q]
   simp
  rw [h36]
  split at hx
  ·exact hx
  ·cases hx
section
variable (R E : Int) (A B : Option Addr) (c c2 : Nat) (gs : List GatT) (ms : List MarT) (w : World) (hA : Kd.C gatK w A gs.length gs) (hB : Kd.C marK w B ms.length ms) (hk : BytesK ms)
include hA hB hk
theorem open_no (h : sceneF R E gs ms = false) : Calls Tryd.prog 35 #[.agg (scnV R A gs.length c E B ms.length c2).toArray] w fun e w' => e = .returned (.tuple #[.pointer none, .int .i64 90]) ∧ Below w.heap.size w w' := by
 refine (open_calls R E A B c c2 gs ms w hA hB hk).mono ?_
 rintro e w' (⟨_, h2, h3⟩ | ⟨h1, _⟩)
 ·exact ⟨h2, h3⟩
 ·rw [h] at h1; cases h1
theorem open_yes (h : sceneF R E gs ms = true) : Calls Tryd.prog 35 #[.agg (scnV R A gs.length c E B ms.length c2).toArray] w fun e w' => ∃ bs pre fb fc wb wc, e = .returned (.tuple #[.pointer (some ⟨bs, 0, none⟩), .int .i64 0]) ∧ pre.map (·.2) = allD gs ∧ WOK w XNone (siteH bs (scnV R A gs.length c E B ms.length c2) R.toNat gs pre (some (fb, fc)) (some (wb, wc))) w' := by
 refine (open_calls R E A B c c2 gs ms w hA hB hk).mono ?_
 rintro e w' (⟨h1, _⟩ | ⟨_, bs, pre, rf, rw_, h2, h3, h4, h5, h6⟩)
 ·rw [h] at h1; cases h1
 ·obtain ⟨⟨fb, fc⟩, rfl⟩ := Option.ne_none_iff_exists'.1 h4
  obtain ⟨⟨wb, wc⟩, rfl⟩ := Option.ne_none_iff_exists'.1 h5
  exact ⟨bs, pre, fb, fc, wb, wc, h2, h3, h6⟩
end
theorem nat_of {R : Int} (h : 1 ≤ R ∧ R ≤ 6) : ∃ n : Nat, R = n ∧ 1 ≤ n ∧ n ≤ 6 := ⟨R.toNat, by omega, by omega, by omega⟩
theorem marks_ok {R : Int} (hR : 1 ≤ R ∧ R ≤ 6) : ∀ {ms : List MarT} {last : Int}, marksF R last ms = true → ∀ m ∈ ms, MarkOK m
 | [], _, _, m, hm => by cases hm
 | x :: ms, last, h, m, hm => by
  simp only [marksF, Bool.and_eq_true] at h
  obtain ⟨⟨⟨⟨h1, h2⟩, h3⟩, h4⟩, h5⟩ := h
  rcases List.mem_cons.1 hm with rfl | hm
  ·have q2 := inF_iff.1 h2
   have q3 := inF_iff.1 h3
   have hq : (0 ≤ m.f3 ∧ m.f3 ≤ 5) ∧ (0 ≤ m.f4.f0 ∧ m.f4.f0 ≤ 600) ∧ (0 ≤ m.f4.f1 ∧ m.f4.f1 ≤ 600) ∧ (0 ≤ m.f5 ∧ m.f5 ≤ 600) := by
    unfold kindF at h4
    split at h4
    ·simp only [timedF, inF, Bool.and_eq_true, decide_eq_true_eq] at h4
     omega
    ·split at h4
     ·simp only [lastingF, noneF, inF, Bool.and_eq_true, decide_eq_true_eq] at h4
      omega
     ·simp only [beforeF, noneF, inF, Bool.and_eq_true, decide_eq_true_eq, Bool.not_eq_true', decide_eq_false_iff_not] at h4
      omega
   exact ⟨q3, by omega, hq.1, hq.2.1, hq.2.2.1, hq.2.2.2⟩
  ·exact marks_ok hR h5 m hm
def roomOK (R room : Int) : Bool := inF 0 (R - 1) room
section
variable (R E : Int) (A B : Option Addr) (c c2 : Nat) (gs : List GatT) (ms : List MarT) (room : Int) (w : World) (hA : Kd.C gatK w A gs.length gs) (hB : Kd.C marK w B ms.length ms) (hk : BytesK ms)
include hA hB hk
set_option maxHeartbeats 4000000 in
theorem roomed_no (h : sceneF R E gs ms = false) : Calls Tryd.prog 27 #[.agg (scnV R A gs.length c E B ms.length c2).toArray, .int .i64 room] w fun e w' => e = .returned (.tuple #[.pointer none, .int .i64 90]) ∧ Below w.heap.size w w' := by
 refine x_calls (X := XNone) Tryd.func27 rfl rfl rfl ?_
 with_reducible ((repeat apply xc_seq); apply xcR)
 refine xo_box rfl rfl rfl rfl (fun b2 => ?_)
 refine xoA ?_
 refine xoA ?_
 with_reducible (apply xo_nil; (repeat first | apply xqT | apply xqB | apply xqS); (repeat apply xc_seq); apply xcR)
 refine xo_loadN T_ rfl rfl rfl (by repeat first | exact mH | apply mT | apply mA) rfl rfl ?_
 refine xo_callB (fs := []) (cs := []) rfl rfl rfl open_enters rfl (fun w1 hw1 => open_no R E A B c c2 gs ms w1 (Kd.C_below hA hw1.kx.below) (Kd.C_below hB hw1.kx.below) hk h) ?_
 refine xoM ?_
 refine xo_ext rfl rfl rfl rfl ?_
 refine xo_ext rfl rfl rfl rfl ?_
 refine xoA ?_
 refine xoA ?_
 with_reducible (apply xo_nil; (repeat first | apply xqT | apply xqB | apply xqS); (repeat apply xc_seq); apply xcR)
 refine xoM ?_
 refine xo_neq rfl rfl rfl rfl ?_
 with_reducible (apply xo_nil; (repeat first | apply xqT | apply xqB | apply xqS); (repeat apply xc_seq))
 refine xc_condT rfl ?_
 with_reducible ((repeat apply xc_seq); apply xcR)
 refine xoM ?_
 refine xoA ?_
 refine xoA ?_
 with_reducible (apply xo_nil; (repeat first | apply xqT | apply xqB | apply xqS); (repeat apply xc_seq); apply xc_ret; (repeat (first | apply xq_thenR | apply xq_blockR | apply xq_scopeR)))
 exact xq_ret2 rfl rfl rfl fun w' hw => ⟨rfl, hw.kx.below⟩
set_option maxHeartbeats 4000000 in
theorem roomed_arg (h : sceneF R E gs ms = true) (hr : roomOK R room = false) : Calls Tryd.prog 27 #[.agg (scnV R A gs.length c E B ms.length c2).toArray, .int .i64 room] w fun e w' => e = .returned (.tuple #[.pointer none, .int .i64 2]) ∧ Below w.heap.size w w' := by
 obtain ⟨hR6, _⟩ := sceneF_ok h
 refine x_calls (X := XNone) Tryd.func27 rfl rfl rfl ?_
 with_reducible ((repeat apply xc_seq); apply xcR)
 refine xo_box rfl rfl rfl rfl (fun b2 => ?_)
 refine xoA ?_
 refine xoA ?_
 with_reducible (apply xo_nil; (repeat first | apply xqT | apply xqB | apply xqS); (repeat apply xc_seq); apply xcR)
 refine xo_loadN T_ rfl rfl rfl (by repeat first | exact mH | apply mT | apply mA) rfl rfl ?_
 refine xo_call (fs := []) (cs := []) rfl rfl rfl open_enters rfl (fun w1 hw1 => (open_yes R E A B c c2 gs ms w1 (Kd.C_below hA hw1.kx.below) (Kd.C_below hB hw1.kx.below) hk h).mono ?_)
 rintro e w2 ⟨bs, pre, fb, fc, wb, wc, rfl, hp, hz⟩
 refine ⟨_, _, rfl, hw1.below hz.kx.below, ?_⟩
 clear hz hw1
 refine xoM ?_
 refine xo_ext rfl rfl rfl rfl ?_
 refine xo_ext rfl rfl rfl rfl ?_
 refine xoA ?_
 refine xoA ?_
 with_reducible (apply xo_nil; (repeat first | apply xqT | apply xqB | apply xqS); (repeat apply xc_seq); apply xcR)
 refine xoM ?_
 refine xo_neq rfl rfl rfl rfl ?_
 with_reducible (apply xo_nil; (repeat first | apply xqT | apply xqB | apply xqS); (repeat apply xc_seq))
 refine xc_condF rfl ?_
 with_reducible (apply xc_skip; (repeat first | apply xqT | apply xqB | apply xqS); (repeat apply xc_seq); apply xcR)
 refine xo_fa T_ rfl rfl rfl rfl rfl ?_
 refine xo_load0 T_ rfl rfl rfl (by repeat first | exact mH | apply mT | apply mA) rfl rfl ?_
 refine xo_sub rfl rfl rfl (by omega) rfl ?_
 refine xoM ?_
 refine xo_bs1 T_ rfl rfl rfl rfl rfl rfl rfl rfl (fun b20 => ?_)
 refine xo_callB (fs := []) (cs := []) rfl rfl rfl in_enters rfl (fun w1 hw1 => in_calls hw1 0 (R - 1) room (by repeat first | exact mH | apply mT | apply mA)) ?_
 refine xo_as (i := 21) rfl (congrArg Value.bool hr) ?_
 refine xo_notOp rfl rfl rfl ?_
 with_reducible (apply xo_nil; (repeat first | apply xqT | apply xqB | apply xqS); (repeat apply xc_seq))
 refine xc_condT rfl ?_
 with_reducible ((repeat apply xc_seq); apply xcR)
 refine xoA ?_
 refine xoA ?_
 with_reducible (apply xo_nil; (repeat first | apply xqT | apply xqB | apply xqS); (repeat apply xc_seq); apply xc_ret; (repeat (first | apply xq_thenR | apply xq_blockR | apply xq_scopeR)))
 exact xq_ret2 rfl rfl rfl fun w' hw => ⟨rfl, hw.kx.below⟩
set_option maxHeartbeats 4000000 in
theorem roomed_yes (h : sceneF R E gs ms = true) (hr : roomOK R room = true) : Calls Tryd.prog 27 #[.agg (scnV R A gs.length c E B ms.length c2).toArray, .int .i64 room] w fun e w' => ∃ bs pre fb fc wb wc, e = .returned (.tuple #[.pointer (some ⟨bs, 0, none⟩), .int .i64 0]) ∧ pre.map (·.2) = allD gs ∧ WOK w XNone (siteH bs (scnV R A gs.length c E B ms.length c2) R.toNat gs pre (some (fb, fc)) (some (wb, wc))) w' := by
 obtain ⟨hR6, _⟩ := sceneF_ok h
 refine x_calls (X := XNone) Tryd.func27 rfl rfl rfl ?_
 with_reducible ((repeat apply xc_seq); apply xcR)
 refine xo_box rfl rfl rfl rfl (fun b2 => ?_)
 refine xoA ?_
 refine xoA ?_
 with_reducible (apply xo_nil; (repeat first | apply xqT | apply xqB | apply xqS); (repeat apply xc_seq); apply xcR)
 refine xo_loadN T_ rfl rfl rfl (by repeat first | exact mH | apply mT | apply mA) rfl rfl ?_
 refine xo_call (fs := []) (cs := []) rfl rfl rfl open_enters rfl (fun w1 hw1 => (open_yes R E A B c c2 gs ms w1 (Kd.C_below hA hw1.kx.below) (Kd.C_below hB hw1.kx.below) hk h).mono ?_)
 rintro e w2 ⟨bs, pre, fb, fc, wb, wc, rfl, hp, hz⟩
 refine ⟨_, _, rfl, hw1.join hz (fun e he => (siteH_own e he).1), ?_⟩
 clear hz hw1
 refine xoM ?_
 refine xo_ext rfl rfl rfl rfl ?_
 refine xo_ext rfl rfl rfl rfl ?_
 refine xoA ?_
 refine xoA ?_
 with_reducible (apply xo_nil; (repeat first | apply xqT | apply xqB | apply xqS); (repeat apply xc_seq); apply xcR)
 refine xoM ?_
 refine xo_neq rfl rfl rfl rfl ?_
 with_reducible (apply xo_nil; (repeat first | apply xqT | apply xqB | apply xqS); (repeat apply xc_seq))
 refine xc_condF rfl ?_
 with_reducible (apply xc_skip; (repeat first | apply xqT | apply xqB | apply xqS))
 generalize hζ : siteH bs (scnV R A gs.length c E B ms.length c2) R.toNat gs pre (some (fb, fc)) (some (wb, wc)) = ζ
 with_reducible ((repeat apply xc_seq); apply xcR)
 refine xo_fa T_ rfl rfl rfl rfl rfl ?_
 refine xo_load0 T_ rfl rfl rfl (by repeat first | exact mH | apply mT | apply mA) rfl rfl ?_
 refine xo_sub rfl rfl rfl (by omega) rfl ?_
 refine xoM ?_
 refine xo_bs1 T_ rfl rfl rfl rfl rfl rfl rfl rfl (fun b20 => ?_)
 refine xo_callB (fs := []) (cs := []) rfl rfl rfl in_enters rfl (fun w1 hw1 => in_calls hw1 0 (R - 1) room (by repeat first | exact mH | apply mT | apply mA)) ?_
 refine xo_as (i := 21) rfl (congrArg Value.bool hr) ?_
 refine xo_notOp rfl rfl rfl ?_
 with_reducible (apply xo_nil; (repeat first | apply xqT | apply xqB | apply xqS); (repeat apply xc_seq))
 refine xc_condF rfl ?_
 with_reducible (apply xc_skip; (repeat first | apply xqT | apply xqB | apply xqS); (repeat apply xc_seq); apply xcR)
 refine xoM ?_
 refine xoA ?_
 refine xoA ?_
 with_reducible (apply xo_nil; (repeat first | apply xqT | apply xqB | apply xqS); (repeat apply xc_seq); apply xc_ret; (repeat (first | apply xq_thenR | apply xq_blockR | apply xq_scopeR)))
 refine xq_ret2 rfl rfl rfl fun w' hw => ⟨bs, pre, fb, fc, wb, wc, rfl, hp, by rw [hζ]; exact hw.sub (List.Sublist.cons _ (List.sublist_append_left _ _))⟩
end
theorem roomed_enters : ∀ args w, (callFunc 27 args).run Tryd.prog w = .ok (.enter 27 args) w := enters_of Tryd.func27 (by kernel_rfl) rfl
def roomsN (E : Int) (R : Nat) (gs : List GatT) (ms : List MarT) : List Nat := (List.range R).filter fun r => canF E R gs r ms
def intsN (l : List Nat) : List Int := l.map fun n : Nat => (n : Int)
theorem intsN_nodup {l : List Nat} (h : l.Nodup) : (intsN l).Nodup := by
 induction l with
 | nil => exact List.nodup_nil
 | cons x l ih =>
  rw [List.nodup_cons] at h
  simp only [intsN, List.map_cons, List.nodup_cons] at ih ⊢
  refine ⟨fun hm => h.1 ?_, ih h.2⟩
  obtain ⟨y, hy, e⟩ := List.mem_map.1 hm
  have : y = x := by omega
  exact this ▸ hy
theorem intsN_range_succ (k : Nat) : insN (k : Int) (intsN (List.range k)) = intsN (List.range (k + 1)) := by
 unfold insN
 rw [if_neg (by
  intro h
  obtain ⟨y, hy, e⟩ := List.mem_map.1 h
  have := List.mem_range.1 hy
  omega), List.range_succ]
 simp [intsN]
def leftN (p : Nat → Bool) (R j : Nat) : List Nat := (List.range R).filter fun r => decide (j ≤ r) || p r
theorem leftN_zero (p : Nat → Bool) (R : Nat) : leftN p R 0 = List.range R := by simp [leftN]
theorem leftN_end (p : Nat → Bool) (R : Nat) : leftN p R R = (List.range R).filter p := by
 unfold leftN
 refine List.filter_congr fun r hr => ?_
 have := List.mem_range.1 hr
 simp
 omega
theorem leftN_yes (p : Nat → Bool) (R j : Nat) (h : p j = true) : leftN p R (j + 1) = leftN p R j := by
 unfold leftN
 refine List.filter_congr fun r hr => ?_
 by_cases e : r = j
 ·subst e; simp [h]
 ·have : decide (j + 1 ≤ r) = decide (j ≤ r) := by rw [Bool.eq_iff_iff]; simp; omega
  rw [this]
theorem leftN_no (p : Nat → Bool) (R j : Nat) (h : p j = false) : delN (j : Int) (intsN (leftN p R j)) = intsN (leftN p R (j + 1)) := by
 unfold delN
 have hn : (leftN p R j).Nodup := List.Nodup.sublist List.filter_sublist List.nodup_range
 rw [(intsN_nodup hn).erase_eq_filter]
 unfold intsN
 rw [List.filter_map]
 congr 1
 unfold leftN
 rw [List.filter_filter]
 refine List.filter_congr fun r hr => ?_
 simp only [Function.comp]
 by_cases e : r = j
 ·subst e; simp [h]
 ·have e2 : ((r : Int) != (j : Int)) = true := by simp; omega
  have : decide (j + 1 ≤ r) = decide (j ≤ r) := by rw [Bool.eq_iff_iff]; simp; omega
  rw [this, e2, Bool.true_and]
theorem sort_ints {l : List Nat} (h : l.Pairwise (· < ·)) : sortF (intsN l) = intsN l := by
 have tr : ∀ a b c : Int, decide (a ≤ b) = true → decide (b ≤ c) = true → decide (a ≤ c) = true := fun a b c h1 h2 => by simp at *; omega
 have tot : ∀ a b : Int, (decide (a ≤ b) || decide (b ≤ a)) = true := fun a b => by simp; omega
 refine List.Perm.eq_of_pairwise (le := fun a b => decide (a ≤ b) = true) (fun a b _ _ h1 h2 => ?_) (List.pairwise_mergeSort tr tot _) ?_ (List.mergeSort_perm _ _)
 ·simp only [decide_eq_true_eq] at h1 h2
  omega
 ·unfold intsN
  rw [List.pairwise_map]
  exact h.imp fun q => by simp; omega
theorem roomsN_rising (E : Int) (R : Nat) (gs : List GatT) (ms : List MarT) : (roomsN E R gs ms).Pairwise (· < ·) := List.Pairwise.filter _ List.pairwise_lt_range
theorem roomsN_len (E : Int) (R : Nat) (gs : List GatT) (ms : List MarT) : (roomsN E R gs ms).length ≤ R := by
 have := List.length_filter_le (fun r => canF E R gs r ms) (List.range R)
 rwa [List.length_range] at this
set_option maxHeartbeats 8000000 in
theorem rooms_calls (bs R : Nat) (E : Int) (gs : List GatT) (B Bm : Option Addr) (nm c2 cm : Nat) (ms : List MarT) (w : World) (hs : SiteOK w bs R E gs B nm c2) (hM : RowOf marV 7 zMar w Bm ms) (hm8 : ms.length ≤ 8) (hmk : ∀ m ∈ ms, MarkOK m) :
  Calls Tryd.prog 36 #[.pointer (some ⟨bs, 0, none⟩), .slice Bm ms.length cm] w fun e w' => ∃ r : RowR, e = .returned (valR r (roomsN E R gs ms).length) ∧ RowAt 3 w.heap.size w' r (intsN (roomsN E R gs ms)) ∧ Below w.heap.size w w' := by
 have hs0 := hs
 obtain ⟨hR6, hE6, hG, hglob, fb, fc, wv, A, c, hS⟩ := hs
 have hsV := hS.site
 refine x_calls (X := XNone) Tryd.func36 rfl rfl rfl ?_
 with_reducible ((repeat apply xc_seq); apply xcR)
 refine xoA ?_
 with_reducible (apply xo_nil; (repeat first | apply xqT | apply xqB | apply xqS); (repeat apply xc_seq); apply xcR)
 refine xo_mkm rfl rfl (fun b8 => ?_)
 refine xoA ?_
 with_reducible (apply xo_nil; (repeat first | apply xqT | apply xqB | apply xqS); (repeat apply xc_seq); apply xcR)
 refine xoM ?_
 refine xo_nilck rfl rfl rfl ?_
 refine xo_fa T_ rfl rfl rfl rfl rfl ?_
 refine xo_fa T_ rfl rfl rfl rfl rfl ?_
 refine xo_loadR0 T_ rfl rfl rfl (hsV.lit (j := 0) rfl) rfl ?_
 refine xoM ?_
 with_reducible (apply xo_nil; (repeat first | apply xqT | apply xqB | apply xqS); (repeat apply xc_seq); apply xc_block)
 refine xc_loop (γ := Nat) (fun k => k ≤ R) (fun k => [(0, .pointer (some ⟨bs, 0, none⟩)), (1, .slice Bm ms.length cm), (5, .map (some b8)), (13, .int .i64 (R : Int)), (14, .int .i64 (k : Int))]) (fun k => [(b8, true, hmap (setV (intsN (List.range k))))]) (fun k => R - k) 0 (Nat.zero_le _) ⟨rfl, rfl, rfl, rfl, rfl, trivial⟩ (by repeat (first | exact List.Sublist.refl _ | apply List.Sublist.cons_cons | apply List.Sublist.cons | exact List.nil_sublist _)) ?_
 intro k hk
 with_reducible ((repeat apply xc_seq); apply xcR)
 refine xo_lss rfl rfl rfl rfl ?_
 with_reducible (apply xo_nil; (repeat first | apply xqT | apply xqB | apply xqS); (repeat apply xc_seq))
 refine xc_cond rfl (fun h => ?_) (fun h => ?_)
 ·have hlt : k < R := by have := of_decide_eq_true h; omega
  have hnx := intsN_range_succ k
  with_reducible (apply xc_skip; (repeat first | apply xqT | apply xqB | apply xqS); (repeat apply xc_seq); apply xc_block; (repeat apply xc_seq); apply xcR)
  refine xoM ?_
  refine xoA ?_
  with_reducible (apply xo_nil; (repeat first | apply xqT | apply xqB | apply xqS); (repeat apply xc_seq); apply xcR)
  refine xoM ?_
  refine xoM ?_
  refine xo_sins T_ rfl rfl rfl rfl rfl rfl (by repeat first | exact mH | apply mT | apply mA) (by repeat first | exact Upd.head | apply Upd.tail | apply Upd.app) rfl ?_
  with_reducible (apply xo_nil; (repeat first | apply xqT | apply xqB | apply xqS); (repeat apply xc_seq); apply xcR)
  refine xo_add rfl rfl rfl (by omega) rfl ?_
  refine xoM ?_
  with_reducible (apply xo_nil; (repeat first | apply xqT | apply xqB | apply xqS))
  exact xq_again _ _ _ _ _ (k + 1) (by omega) (by omega) ⟨rfl, rfl, rfl, rfl, rfl, trivial⟩ (by rw [← hnx]; exact (by repeat (first | exact List.Sublist.refl _ | apply List.Sublist.cons_cons | apply List.Sublist.cons | exact List.nil_sublist _)))
 have hge : R = k := by have := of_decide_eq_false h; omega
 subst hge
 with_reducible (apply xc_exit; (repeat (first | apply xq_blockX | apply xq_thenE | refine xq_blockE rfl ?_ | apply xq_scopeE)); (repeat first | apply xqT | apply xqB | apply xqS); (repeat apply xc_seq); apply xcR)
 refine xoM ?_
 refine xo_nilck rfl rfl rfl ?_
 refine xo_fa T_ rfl rfl rfl rfl rfl ?_
 refine xo_fa T_ rfl rfl rfl rfl rfl ?_
 refine xo_loadR0 T_ rfl rfl rfl (hsV.lit (j := 0) rfl) rfl ?_
 refine xoM ?_
 with_reducible (apply xo_nil; (repeat first | apply xqT | apply xqB | apply xqS); (repeat apply xc_seq); apply xc_block)
 rw [← leftN_zero (fun r => canF E R gs r ms) R]
 refine xc_loop (γ := Nat) (fun k => k ≤ R) (fun k => [(0, .pointer (some ⟨bs, 0, none⟩)), (1, .slice Bm ms.length cm), (5, .map (some b8)), (24, .int .i64 (R : Int)), (25, .int .i64 (k : Int))]) (fun k => [(b8, true, hmap (setV (intsN (leftN (fun r => canF E R gs r ms) R k))))]) (fun k => R - k) 0 (Nat.zero_le _) ⟨rfl, rfl, rfl, rfl, rfl, trivial⟩ (by repeat (first | exact List.Sublist.refl _ | apply List.Sublist.cons_cons | apply List.Sublist.cons | exact List.nil_sublist _)) ?_
 intro k hk
 with_reducible ((repeat apply xc_seq); apply xcR)
 refine xo_lss rfl rfl rfl rfl ?_
 with_reducible (apply xo_nil; (repeat first | apply xqT | apply xqB | apply xqS); (repeat apply xc_seq))
 refine xc_cond rfl (fun h => ?_) (fun h => ?_)
 ·have hlt : k < R := by have := of_decide_eq_true h; omega
  with_reducible (apply xc_skip; (repeat first | apply xqT | apply xqB | apply xqS); (repeat apply xc_seq); apply xc_block; (repeat apply xc_seq); apply xcR)
  refine xoM ?_
  refine xoA ?_
  with_reducible (apply xo_nil; (repeat first | apply xqT | apply xqB | apply xqS))
  cases hc : canF E R gs k ms
  ·have hnx := leftN_no (fun r => canF E R gs r ms) R k hc
   with_reducible ((repeat apply xc_seq); apply xcR)
   refine xoM ?_
   refine xoM ?_
   refine xoM ?_
   refine xo_callB (fs := []) (cs := []) rfl rfl rfl can_enters rfl (fun w1 hw1 => can_calls bs R E gs B Bm nm c2 cm ms k w1 (hs0.below hw1.kx.below) (hM.below hw1.kx.below) hm8 hmk (by omega)) ?_
   refine xo_as (i := 31) rfl (congrArg Value.bool hc) ?_
   refine xo_notOp rfl rfl rfl ?_
   with_reducible (apply xo_nil; (repeat first | apply xqT | apply xqB | apply xqS); (repeat apply xc_seq))
   refine xc_condT rfl ?_
   with_reducible ((repeat apply xc_seq); apply xcR)
   refine xoM ?_
   refine xoM ?_
   refine xo_sdel T_ rfl rfl rfl rfl rfl (by repeat first | exact mH | apply mT | apply mA) (by repeat first | exact Upd.head | apply Upd.tail | apply Upd.app) rfl ?_
   with_reducible (apply xo_nil; (repeat first | apply xqT | apply xqB | apply xqS); (repeat apply xc_seq); apply xcR)
   refine xo_add rfl rfl rfl (by omega) rfl ?_
   refine xoM ?_
   with_reducible (apply xo_nil; (repeat first | apply xqT | apply xqB | apply xqS))
   exact xq_again _ _ _ _ _ (k + 1) (by omega) (by omega) ⟨rfl, rfl, rfl, rfl, rfl, trivial⟩ (by rw [← hnx]; exact (by repeat (first | exact List.Sublist.refl _ | apply List.Sublist.cons_cons | apply List.Sublist.cons | exact List.nil_sublist _)))
  ·have hnx := leftN_yes (fun r => canF E R gs r ms) R k hc
   with_reducible ((repeat apply xc_seq); apply xcR)
   refine xoM ?_
   refine xoM ?_
   refine xoM ?_
   refine xo_callB (fs := []) (cs := []) rfl rfl rfl can_enters rfl (fun w1 hw1 => can_calls bs R E gs B Bm nm c2 cm ms k w1 (hs0.below hw1.kx.below) (hM.below hw1.kx.below) hm8 hmk (by omega)) ?_
   refine xo_as (i := 31) rfl (congrArg Value.bool hc) ?_
   refine xo_notOp rfl rfl rfl ?_
   with_reducible (apply xo_nil; (repeat first | apply xqT | apply xqB | apply xqS); (repeat apply xc_seq))
   refine xc_condF rfl ?_
   with_reducible (apply xc_skip; (repeat first | apply xqT | apply xqB | apply xqS); (repeat apply xc_seq); apply xcR)
   refine xo_add rfl rfl rfl (by omega) rfl ?_
   refine xoM ?_
   with_reducible (apply xo_nil; (repeat first | apply xqT | apply xqB | apply xqS))
   exact xq_again _ _ _ _ _ (k + 1) (by omega) (by omega) ⟨rfl, rfl, rfl, rfl, rfl, trivial⟩ (by rw [hnx]; exact (by repeat (first | exact List.Sublist.refl _ | apply List.Sublist.cons_cons | apply List.Sublist.cons | exact List.nil_sublist _)))
 have hge : R = k := by have := of_decide_eq_false h; omega
 subst hge
 rw [leftN_end]
 have hrl := roomsN_len E R gs ms
 have hrs := roomsN_rising E R gs ms
 show XC _ _ _ _ _ _ _ _ _ [(b8, true, hmap (setV (intsN (roomsN E R gs ms))))] _
 generalize roomsN E R gs ms = rl at hrl hrs
 have hil : (intsN rl).length = rl.length := by simp [intsN]
 with_reducible (apply xc_exit; (repeat (first | apply xq_blockX | apply xq_thenE | refine xq_blockE rfl ?_ | apply xq_scopeE)); (repeat first | apply xqT | apply xqB | apply xqS); (repeat apply xc_seq); apply xcR)
 refine xoM ?_
 refine xo_call (fs := []) (cs := []) rfl rfl rfl keys_enters rfl (fun w1 hw1 => (keys_calls b8 w1).mono ?_)
 rintro e w2 ⟨BK, rfl, hB1, hB2, hb⟩
 refine ⟨_, _, rfl, hw1.more (φ := cel [.map (some b8)] 65) hb hB1 hB2 rfl, ?_⟩
 clear hB1 hB2 hb hw1
 refine xo_call (fs := []) (cs := []) rfl rfl rfl sorted_enters rfl (fun w1 hw1 => (sorted_calls 55 [.pointer (some ⟨BK, 0, none⟩)] keysIter_enters (fun k => k = BK ∨ k = b8) (intsN rl) (intsN rl).length w1 (iter_keys (intsN rl) b8 BK w1 (hw1.obj (wr := true) (cs := [.map (some b8)]) (by repeat first | exact mH | apply mT | apply mA)) (hw1.imap (wr := true) (by repeat first | exact mH | apply mT | apply mA))) (fun k hk => hk.elim (fun e => e ▸ hw1.lt (e := (BK, true, cel [.map (some b8)] 65)) (by repeat first | exact mH | apply mT | apply mA)) (fun e => e ▸ hw1.lt (e := (b8, true, hmap (setV (intsN rl)))) (by repeat first | exact mH | apply mT | apply mA))) (by omega) (by omega)).mono ?_)
 rintro e w2 ⟨r11, rfl, hrw, hb⟩
 rw [sort_ints hrs] at hrw ⊢
 have h11 := hrw.1
 refine ⟨_, _, rfl, hw1.row hb hrw, ?_⟩
 clear hrw hb hw1
 refine xoA ?_
 with_reducible (apply xo_nil; (repeat first | apply xqT | apply xqB | apply xqS); (repeat apply xc_seq); apply xc_ret; (repeat (first | apply xq_thenR | apply xq_blockR | apply xq_scopeR)))
 refine xq_ret1 rfl rfl fun w' hw => ⟨r11, by rw [hil], RowAt.of hw h11, hw.kx.below⟩
theorem rooms_enters : ∀ args w, (callFunc 36 args).run Tryd.prog w = .ok (.enter 36 args) w := enters_of Tryd.func36 (by kernel_rfl) rfl
theorem siteOK_of {w : World} {bs n : Nat} {E : Int} {gs : List GatT} {A B : Option Addr} {c nm c2 : Nat} {pre : List DelT} {fb fc : Nat} {rw_ : RowR} (hR : 1 ≤ n ∧ n ≤ 6) (hE : 0 ≤ E ∧ E ≤ 600) (hG : GatesR n gs) (hg : GlobO w) (h : InW (siteH bs (scnV n A gs.length c E B nm c2) n gs pre (some (fb, fc)) rw_) w) (hp : pre.map (·.2) = allD gs) : SiteOK w bs n E gs B nm c2 :=
 ⟨hR, hE, hG, hg, fb, fc, _, A, c, siteR_of h hp⟩
structure SceneAt (w : World) (A B : Option Addr) (gs : List GatT) (ms : List MarT) : Prop where
 gates : Kd.C gatK w A gs.length gs
 marks : Kd.C marK w B ms.length ms
 bytes : BytesK ms
 glob : GlobO w
theorem SceneAt.below {w w' : World} {A B : Option Addr} {gs : List GatT} {ms : List MarT} (h : SceneAt w A B gs ms) (hb : Below w.heap.size w w') : SceneAt w' A B gs ms := ⟨Kd.C_below h.gates hb, Kd.C_below h.marks hb, h.bytes, h.glob.below hb⟩
def valA (r : RowR) : Option Addr := r.map fun p => ⟨p.1, 0, none⟩
def valC (r : RowR) : Nat := (r.map (·.2)).getD 0
theorem valR_eq {r : RowR} {n : Nat} (h : r = none → n = 0) : valR r n = .slice (valA r) n (valC r) := by
 cases r with
 | none => rw [h rfl]; rfl
 | some p => rfl
def roomsR (R E : Int) (gs : List GatT) (ms : List MarT) : List Nat := if sceneF R E gs ms = true then roomsN E R.toNat gs ms else []
set_option maxHeartbeats 8000000 in
theorem Rooms_calls (R E : Int) (A B : Option Addr) (c c2 : Nat) (gs : List GatT) (ms : List MarT) (w : World) (hs : SceneAt w A B gs ms) :
  Calls Tryd.prog 9 #[.agg (scnV R A gs.length c E B ms.length c2).toArray] w fun e w' => ∃ rr : RowR, e = .returned (.tuple #[valR rr (roomsR R E gs ms).length, .int .i64 (checkF R E gs ms)]) ∧ RowAt 3 w.heap.size w' rr (intsN (roomsR R E gs ms)) ∧ Below w.heap.size w w' := by
 unfold roomsR checkF
 refine x_calls (X := XNone) Tryd.func9 rfl rfl rfl ?_
 with_reducible ((repeat apply xc_seq); apply xcR)
 refine xo_box rfl rfl rfl rfl (fun b1 => ?_)
 refine xoA ?_
 refine xoA ?_
 with_reducible (apply xo_nil; (repeat first | apply xqT | apply xqB | apply xqS))
 cases hsc : sceneF R E gs ms
 ·with_reducible repeat apply xc_seq
  with_reducible apply xcR
  refine xo_loadN T_ rfl rfl rfl (by repeat first | exact mH | apply mT | apply mA) rfl rfl ?_
  refine xo_callB (fs := []) (cs := []) rfl rfl rfl open_enters rfl (fun w1 hw1 => open_no R E A B c c2 gs ms w1 (hs.below hw1.kx.below).gates (hs.below hw1.kx.below).marks hs.bytes hsc) ?_
  refine xoM ?_
  refine xo_ext rfl rfl rfl rfl ?_
  refine xo_ext rfl rfl rfl rfl ?_
  refine xoA ?_
  refine xoA ?_
  with_reducible (apply xo_nil; (repeat first | apply xqT | apply xqB | apply xqS); (repeat apply xc_seq); apply xcR)
  refine xoM ?_
  refine xo_neq rfl rfl rfl rfl ?_
  with_reducible (apply xo_nil; (repeat first | apply xqT | apply xqB | apply xqS); (repeat apply xc_seq))
  refine xc_condT rfl ?_
  with_reducible ((repeat apply xc_seq); apply xcR)
  refine xoM ?_
  refine xoA ?_
  refine xoA ?_
  with_reducible (apply xo_nil; (repeat first | apply xqT | apply xqB | apply xqS); (repeat apply xc_seq); apply xc_ret; (repeat (first | apply xq_thenR | apply xq_blockR | apply xq_scopeR)))
  exact xq_ret2 rfl rfl rfl fun w' hw => ⟨none, rfl, ⟨fun _ => rfl, fun p hp => by cases hp⟩, hw.kx.below⟩
 obtain ⟨hR6, hE6, hG, hm8, hmk⟩ := sceneF_ok hsc
 have hmk' := marks_ok hR6 hmk
 clear hmk
 obtain ⟨n, rfl, hn1, hn6⟩ := nat_of hR6
 with_reducible ((repeat apply xc_seq); apply xcR)
 refine xo_loadN T_ rfl rfl rfl (by repeat first | exact mH | apply mT | apply mA) rfl rfl ?_
 refine xo_call (fs := []) (cs := []) rfl rfl rfl open_enters rfl (fun w1 hw1 => (open_yes n E A B c c2 gs ms w1 (hs.below hw1.kx.below).gates (hs.below hw1.kx.below).marks hs.bytes hsc).mono ?_)
 rintro e w2 ⟨bs, pre, fb, fc, wb, wc, rfl, hp, hz⟩
 refine ⟨_, _, rfl, (hw1.join hz (fun e he => (siteH_own e he).1)).deflag, ?_⟩
 clear hz hw1
 refine xoM ?_
 refine xo_ext rfl rfl rfl rfl ?_
 refine xo_ext rfl rfl rfl rfl ?_
 refine xoA ?_
 refine xoA ?_
 with_reducible (apply xo_nil; (repeat first | apply xqT | apply xqB | apply xqS); (repeat apply xc_seq); apply xcR)
 refine xoM ?_
 refine xo_neq rfl rfl rfl rfl ?_
 with_reducible (apply xo_nil; (repeat first | apply xqT | apply xqB | apply xqS); (repeat apply xc_seq))
 refine xc_condF rfl ?_
 with_reducible (apply xc_skip; (repeat first | apply xqT | apply xqB | apply xqS); (repeat apply xc_seq); apply xcR)
 refine xoM ?_
 refine xo_fa T_ rfl rfl rfl rfl rfl ?_
 refine xo_load0 T_ (b := b1) (wr := true) (cs := scnV n A gs.length c E B ms.length c2) (te := 25) rfl rfl rfl (List.mem_append_right _ (List.Mem.head _)) rfl rfl ?_
 refine xo_call (fs := []) (cs := []) rfl rfl rfl rooms_enters rfl (fun w1 hw1 => (rooms_calls bs n E gs B B ms.length c2 c2 ms w1 (siteOK_of (pre := pre) ⟨hn1, hn6⟩ hE6 hG (hs.below hw1.kx.below).glob (hw1.inW fun e he => List.mem_append_left _ (List.mem_map.2 ⟨e, he, rfl⟩)) hp) (mar_row (hs.below hw1.kx.below).marks) hm8 hmk').mono ?_)
 rintro e w2 ⟨r, rfl, hrw, hb⟩
 have h11 := hrw.1
 refine ⟨_, _, rfl, hw1.row hb hrw, ?_⟩
 clear hrw hb hw1
 refine xoA ?_
 refine xoA ?_
 with_reducible (apply xo_nil; (repeat first | apply xqT | apply xqB | apply xqS); (repeat apply xc_seq); apply xc_ret; (repeat (first | apply xq_thenR | apply xq_blockR | apply xq_scopeR)))
 refine xq_ret2 rfl rfl rfl fun w' hw => ⟨r, rfl, RowAt.of hw h11, hw.kx.below⟩
theorem Rooms_enters : ∀ args w, (callFunc 9 args).run Tryd.prog w = .ok (.enter 9 args) w := enters_of Tryd.func9 (by kernel_rfl) rfl
def namedC (R E : Int) (gs : List GatT) (ms : List MarT) : Int := if sceneF R E gs ms = true then (if (roomsR R E gs ms).length = 0 then 91 else if 1 < (roomsR R E gs ms).length then 6 else 0) else 90
def namedV (R E : Int) (gs : List GatT) (ms : List MarT) : Int := if namedC R E gs ms = 0 then ((roomsR R E gs ms).getD 0 0 : Nat) else 0
set_option maxHeartbeats 8000000 in
theorem Named_calls (R E : Int) (A B : Option Addr) (c c2 : Nat) (gs : List GatT) (ms : List MarT) (w : World) (hs : SceneAt w A B gs ms) :
  Calls Tryd.prog 11 #[.agg (scnV R A gs.length c E B ms.length c2).toArray] w fun e w' => e = .returned (.tuple #[.int .i64 (namedV R E gs ms), .int .i64 (namedC R E gs ms)]) ∧ Below w.heap.size w w' := by
 refine x_calls (X := XNone) Tryd.func11 rfl rfl rfl ?_
 with_reducible ((repeat apply xc_seq); apply xcR)
 refine xo_box rfl rfl rfl rfl (fun b1 => ?_)
 refine xoA ?_
 refine xoA ?_
 with_reducible (apply xo_nil; (repeat first | apply xqT | apply xqB | apply xqS); (repeat apply xc_seq); apply xcR)
 refine xo_loadN T_ rfl rfl rfl (by repeat first | exact mH | apply mT | apply mA) rfl rfl ?_
 refine xo_call (fs := []) (cs := []) rfl rfl rfl Rooms_enters rfl (fun w1 hw1 => (Rooms_calls R E A B c c2 gs ms w1 (hs.below hw1.kx.below)).mono ?_)
 rintro e w2 ⟨r, rfl, hrw, hb⟩
 have h11 := hrw.1
 refine ⟨_, _, rfl, hw1.row hb hrw, ?_⟩
 clear hrw hb hw1
 refine xoM ?_
 refine xo_ext rfl rfl rfl rfl ?_
 refine xo_ext rfl rfl rfl rfl ?_
 refine xoA ?_
 refine xoA ?_
 with_reducible (apply xo_nil; (repeat first | apply xqT | apply xqB | apply xqS))
 cases hsc : sceneF R E gs ms
 ·have e1 : namedC R E gs ms = 90 := by simp [namedC, hsc]
  have e2 : namedV R E gs ms = 0 := by rw [namedV, if_neg (by rw [e1]; decide)]
  have e3 := check_no hsc
  have hd : (!decide (checkF R E gs ms = 0)) = true := by rw [e3]; rfl
  with_reducible ((repeat apply xc_seq); apply xc_block; (repeat apply xc_seq); apply xcR)
  refine xoM ?_
  refine xo_neq rfl rfl rfl rfl ?_
  refine xoA ?_
  refine xo_as (i := 11) rfl (congrArg Value.bool hd) ?_
  with_reducible (apply xo_nil; (repeat first | apply xqT | apply xqB | apply xqS); (repeat apply xc_seq))
  refine xc_condT rfl ?_
  with_reducible ((repeat apply xc_seq); apply xcR)
  refine xoM ?_
  refine xoA ?_
  refine xoA ?_
  with_reducible (apply xo_nil; (repeat first | apply xqT | apply xqB | apply xqS); (repeat apply xc_seq); apply xc_ret; (repeat (first | apply xq_thenR | apply xq_blockR | apply xq_scopeR)))
  exact xq_ret2 rfl rfl rfl fun w' hw => ⟨by rw [e1, e2, e3], hw.kx.below⟩
 have e3 : checkF R E gs ms = 0 := by rw [checkF, if_pos hsc]
 have hd : (!decide (checkF R E gs ms = 0)) = false := by rw [e3]; rfl
 with_reducible ((repeat apply xc_seq); apply xc_block; (repeat apply xc_seq); apply xcR)
 refine xoM ?_
 refine xo_neq rfl rfl rfl rfl ?_
 refine xoA ?_
 refine xo_as (i := 11) rfl (congrArg Value.bool hd) ?_
 with_reducible (apply xo_nil; (repeat first | apply xqT | apply xqB | apply xqS); (repeat apply xc_seq))
 refine xc_condF rfl ?_
 have e4 : namedC R E gs ms = if (roomsR R E gs ms).length = 0 then 91 else if 1 < (roomsR R E gs ms).length then 6 else 0 := by rw [namedC, if_pos hsc]
 unfold namedV
 rw [e4]
 generalize roomsR R E gs ms = l at h11 ⊢
 have hv := valR_eq (r := r) (n := l.length) fun q => by simpa [intsN] using h11 q
 refine xc_slots [(2, .int .i64 0), (3, .int .i64 0), (4, .slice (valA r) l.length (valC r)), (5, .int .i64 (checkF R E gs ms))] ⟨rfl, rfl, congrArg some hv, rfl, trivial⟩ ?_
 with_reducible ((repeat apply xc_seq); apply xcR)
 refine xoM ?_
 refine xo_len T_ rfl rfl rfl rfl ?_
 refine xo_eql rfl rfl rfl rfl ?_
 refine xoA ?_
 with_reducible (apply xo_nil; (repeat first | apply xqT | apply xqB | apply xqS); (repeat apply xc_seq))
 refine xc_cond rfl (fun h => ?_) (fun h => ?_)
 ·have h0 : l.length = 0 := by have := of_decide_eq_true h; omega
  with_reducible ((repeat apply xc_seq); apply xcR)
  refine xoA ?_
  refine xoA ?_
  with_reducible (apply xo_nil; (repeat first | apply xqT | apply xqB | apply xqS); (repeat apply xc_seq); apply xc_ret; (repeat (first | apply xq_thenR | apply xq_blockR | apply xq_scopeR)))
  exact xq_ret2 rfl rfl rfl fun w' hw => ⟨by rw [if_pos h0]; rfl, hw.kx.below⟩
 have h0 : ¬ l.length = 0 := by have := of_decide_eq_false h; omega
 with_reducible ((repeat apply xc_seq); apply xcR)
 refine xoM ?_
 refine xo_len T_ rfl rfl rfl rfl ?_
 refine xo_gtr rfl rfl rfl rfl ?_
 refine xoA ?_
 with_reducible (apply xo_nil; (repeat first | apply xqT | apply xqB | apply xqS); (repeat apply xc_seq))
 refine xc_cond rfl (fun h => ?_) (fun h => ?_)
 ·have h1 : 1 < l.length := by have := of_decide_eq_true h; omega
  with_reducible ((repeat apply xc_seq); apply xcR)
  refine xoA ?_
  refine xoA ?_
  with_reducible (apply xo_nil; (repeat first | apply xqT | apply xqB | apply xqS); (repeat apply xc_seq); apply xc_ret; (repeat (first | apply xq_thenR | apply xq_blockR | apply xq_scopeR)))
  exact xq_ret2 rfl rfl rfl fun w' hw => ⟨by rw [if_neg h0, if_pos h1]; rfl, hw.kx.below⟩
 have h1 : ¬ 1 < l.length := by have := of_decide_eq_false h; omega
 with_reducible (apply xc_skip; (repeat first | apply xqT | apply xqB | apply xqS))
 rcases r with _ | ⟨rb, rcap⟩
 ·have := h11 rfl
  simp [intsN] at this
  subst this
  exact absurd rfl h0
 with_reducible ((repeat apply xc_seq); apply xcR)
 refine xoM ?_
 refine xo_ia T_ rfl rfl rfl rfl rfl ⟨by omega, by omega⟩ rfl ?_
 refine xo_loadO T_ (k := 0) (v := .int .i64 ((l.getD 0 0 : Nat) : Int)) rfl rfl rfl (List.Mem.head _) ?_ rfl ?_
 ·cases l with
  | nil => exact absurd rfl h0
  | cons x l => simp [intsN]
 refine xoA ?_
 refine xoA ?_
 with_reducible (apply xo_nil; (repeat first | apply xqT | apply xqB | apply xqS); (repeat apply xc_seq); apply xc_ret; (repeat (first | apply xq_thenR | apply xq_blockR | apply xq_scopeR)))
 exact xq_ret2 rfl rfl rfl fun w' hw => ⟨by rw [if_neg h0, if_neg h1]; rfl, hw.kx.below⟩
theorem Named_enters : ∀ args w, (callFunc 11 args).run Tryd.prog w = .ok (.enter 11 args) w := enters_of Tryd.func11 (by kernel_rfl) rfl
theorem comF_in (x y : SpaT) : x.f0 ≤ (comF x y).f0 ∧ (comF x y).f1 ≤ x.f1 := by
 unfold comF
 constructor
 ·show x.f0 ≤ if x.f0 < y.f0 then y.f0 else x.f0
  split <;> omega
 ·show (if y.f1 < x.f1 then y.f1 else x.f1) ≤ x.f1
  split <;> omega
theorem winF_in (E : Int) (r : Nat → Int) (ms : List MarT) : 0 ≤ (winF E r ms).f0 ∧ (winF E r ms).f1 ≤ E := by
 have key : ∀ (ms : List MarT) (s : SpaT), s.f0 ≤ (ms.foldl (fun s m => comF s (saysF E r m)) s).f0 ∧ (ms.foldl (fun s m => comF s (saysF E r m)) s).f1 ≤ s.f1 := by
  intro ms
  induction ms with
  | nil => intro s; exact ⟨Int.le_refl _, Int.le_refl _⟩
  | cons m ms ih =>
   intro s
   have h1 := ih (comF s (saysF E r m))
   have h2 := comF_in s (saysF E r m)
   exact ⟨Int.le_trans h2.1 h1.1, Int.le_trans h1.2 h2.2⟩
 exact key ms ⟨0, E⟩
theorem beganFrom_mem {E : Int} {R : Nat} {gs : List GatT} {room : Nat} {ms : List MarT} : ∀ (ls : List (List Int)) (i : Nat) (x : Nat × SpaT), x ∈ beganFrom E R gs room ms i ls ↔ ∃ k, k < ls.length ∧ x.1 = i + k ∧ x.2 = winF E (farM R gs (ls.getD k []) room) ms ∧ x.2.f0 ≤ x.2.f1
 | [], i, x => by simp [beganFrom]
 | l :: ls, i, x => by
  have ih := beganFrom_mem (E := E) (R := R) (gs := gs) (room := room) (ms := ms) ls (i + 1) x
  have tl : (∃ k, k < ls.length ∧ x.1 = i + 1 + k ∧ x.2 = winF E (farM R gs (ls.getD k []) room) ms ∧ x.2.f0 ≤ x.2.f1) ↔ ∃ k, k + 1 < (l :: ls).length ∧ x.1 = i + (k + 1) ∧ x.2 = winF E (farM R gs ((l :: ls).getD (k + 1) []) room) ms ∧ x.2.f0 ≤ x.2.f1 := by
   constructor
   ·rintro ⟨k, h1, h2, h3, h4⟩
    exact ⟨k, by simpa using h1, by omega, by simpa using h3, h4⟩
   ·rintro ⟨k, h1, h2, h3, h4⟩
    exact ⟨k, by simpa using h1, by omega, by simpa using h3, h4⟩
  rw [beganFrom]
  split
  ·rename_i hle
   rw [List.mem_cons, ih, tl]
   constructor
   ·rintro (rfl | ⟨k, h⟩)
    ·exact ⟨0, by simp, by simp, by simp, hle⟩
    ·exact ⟨k + 1, h⟩
   ·rintro ⟨k, h1, h2, h3, h4⟩
    cases k with
    | zero =>
     left
     obtain ⟨x1, x2⟩ := x
     simp at h2 h3
     subst h2
     rw [h3]
    | succ k => exact .inr ⟨k, h1, h2, h3, h4⟩
  ·rename_i hle
   rw [ih, tl]
   constructor
   ·rintro ⟨k, h⟩
    exact ⟨k + 1, h⟩
   ·rintro ⟨k, h1, h2, h3, h4⟩
    cases k with
    | zero =>
     simp at h3
     rw [h3] at h4
     exact absurd h4 hle
    | succ k => exact ⟨k, h1, h2, h3, h4⟩
theorem beganL_mem {E : Int} {R : Nat} {gs : List GatT} {room : Nat} {ms : List MarT} {x : Nat × SpaT} : x ∈ beganL E R gs room ms ↔ x.1 < (allD gs).length ∧ x.2 = winF E (farM R gs ((allD gs).getD x.1 []) room) ms ∧ x.2.f0 ≤ x.2.f1 := by
 unfold beganL
 rw [beganFrom_mem]
 constructor
 ·rintro ⟨k, h1, h2, h3, h4⟩
  rw [Nat.zero_add] at h2
  rw [h2]
  exact ⟨h1, h3, h4⟩
 ·rintro ⟨h1, h2, h3⟩
  exact ⟨x.1, h1, by omega, h2, h3⟩
def truthI (E : Int) (R : Nat) (gs : List GatT) (room : Nat) (ms : List MarT) (minute : Int) : Option Nat := ((beganL E R gs room ms).find? fun x => inF x.2.f0 x.2.f1 minute).map (·.1)
def truthL0 (E : Int) (R : Nat) (gs : List GatT) (room : Nat) (ms : List MarT) (minute : Int) : List Int := match truthI E R gs room ms minute with
 | some i => (allD gs).getD i []
 | none => []
def truthC (R E : Int) (gs : List GatT) (ms : List MarT) (room minute : Int) : Int :=
 if sceneF R E gs ms = true then (if roomOK R room = true then (if (truthI E R.toNat gs room.toNat ms minute).isSome = true then 0 else 91) else 2) else 90
def truthL (R E : Int) (gs : List GatT) (ms : List MarT) (room minute : Int) : List Int := if sceneF R E gs ms = true ∧ roomOK R room = true then truthL0 E R.toNat gs room.toNat ms minute else []
theorem xq_retC2 {P : Program} {N : Nat} {w0 : World} {X : Nat → Prop} {fn : Func} {R : Ending → World → Prop} {σ : Slots} {η : Hp} (T : Tys P) {t u : Tmp} {ts us : TypeId} {b c : Nat} {wr wr2 : Bool} {v x : Value} {te ue : TypeId} (hf : fn.results = #[.cell t ts, .cell u us]) (hv : slot t σ = some (.pointer (some ⟨b, 0, none⟩))) (hx : slot u σ = some (.pointer (some ⟨c, 0, none⟩)))
  (ht : look ts T.tk = some 0) (hu : look us T.tk = some 0) (hm : (b, wr, cel [v] te) ∈ η) (hm2 : (c, wr2, cel [x] ue) ∈ η) (h : ∀ w, WOK w0 X η w → R (.returned (.tuple #[v, x])) w) : XQ N [] w0 X (bodyPost P fn R) .ret σ η :=
 fun a w ha hw => ⟨ha.df, .tuple #[v, x], by
  have h1 := (T.htk _ (look_mem ht)).1 w
  have h2 := hw.cell hm 0 rfl
  have h3 : (loadVar ts ⟨b, 0, none⟩).run P w = .ok v w := by simp [loadVar, h1, h2]
  have h1 := (T.htk _ (look_mem hu)).1 w
  have h2 := hw.cell hm2 0 rfl
  have h4 : (loadVar us ⟨c, 0, none⟩).run P w = .ok x w := by simp [loadVar, h1, h2]
  simp [results, hf, ha.sl _ _ hv, ha.sl _ _ hx, asAddr, h3, h4], h w hw⟩
theorem perm_end {α : Type} (x a b c : α) (S : List α) : List.Perm (x :: (S ++ [a, b, c])) ([x, a, b, c] ++ S) := List.Perm.cons x List.perm_append_comm
theorem roomOK_nat {n : Nat} {room : Int} (hn : n ≤ 6) (h : roomOK n room = true) : ∃ r : Nat, room = r ∧ r < n := by
 have := inF_iff.1 h
 exact ⟨room.toNat, by omega, by omega⟩
theorem siteH_site {bs : Nat} {sv : List Value} {R : Nat} {gs : List GatT} {pre : List DelT} {rf rw_ : RowR} : (bs, true, cel (siteV sv (valR rf pre.length) (valR rw_ pre.length)) 83) ∈ siteH bs sv R gs pre rf rw_ := by
 unfold siteH
 exact List.mem_append_right _ (List.mem_append_right _ (List.Mem.head _))
theorem siteH_when {bs : Nat} {sv : List Value} {R : Nat} {gs : List GatT} {pre : List DelT} {rf : RowR} {wb wc : Nat} : (wb, true, orow 34 1 pre.length wc (pre.map sliceD)) ∈ siteH bs sv R gs pre rf (some (wb, wc)) := by
 unfold siteH
 exact List.mem_append_right _ (List.mem_append_left _ (List.Mem.head _))
theorem siteH_far {bs : Nat} {sv : List Value} {R : Nat} {gs : List GatT} {pre : List DelT} {fb fc : Nat} {rw_ : RowR} : (fb, true, orow 102 36 pre.length fc (flatM R gs pre)) ∈ siteH bs sv R gs pre (some (fb, fc)) rw_ := by
 unfold siteH
 exact List.mem_append_left _ (List.Mem.head _)
theorem siteH_list {bs : Nat} {sv : List Value} {R : Nat} {gs : List GatT} {pre : List DelT} {rf rw_ : RowR} {x : DelT} (hx : x ∈ pre) : (x.1.1, true, orow 3 1 x.2.length x.1.2 (x.2.map (.int .i64))) ∈ siteH bs sv R gs pre rf rw_ := by
 unfold siteH
 exact List.mem_append_right _ (List.mem_append_right _ (List.mem_cons_of_mem _ (List.mem_flatMap.2 ⟨x, hx, List.Mem.head _⟩)))
set_option maxHeartbeats 20000000 in
theorem Truth_calls (R E : Int) (A B : Option Addr) (c c2 : Nat) (gs : List GatT) (ms : List MarT) (room minute : Int) (w : World) (hs : SceneAt w A B gs ms) :
  Calls Tryd.prog 13 #[.agg (scnV R A gs.length c E B ms.length c2).toArray, .int .i64 room, .int .i64 minute] w fun e w' => ∃ rr : RowR, e = .returned (.tuple #[valR rr (truthL R E gs ms room minute).length, .int .i64 (truthC R E gs ms room minute)]) ∧ RowAt 3 w.heap.size w' rr (truthL R E gs ms room minute) ∧ Below w.heap.size w w' := by
 refine x_callsM (vs := [.agg (scnV R A gs.length c E B ms.length c2).toArray, .int .i64 room, .int .i64 minute]) 1000 Tryd.func13 rfl rfl rfl (WOK.start XNone w) ?_
 with_reducible ((repeat apply xc_seq); apply xcR)
 refine xo_box rfl rfl rfl rfl (fun b3 => ?_)
 refine xo_box rfl rfl rfl rfl (fun b5 => ?_)
 refine xo_alloc T_ rfl rfl rfl rfl (fun b6 => ?_)
 refine xo_alloc T_ rfl rfl rfl rfl (fun b7 => ?_)
 with_reducible (apply xo_nil; (repeat first | apply xqT | apply xqB | apply xqS))
 cases hsc : sceneF R E gs ms
 ·have e1 : truthC R E gs ms room minute = 90 := by simp [truthC, hsc]
  have e2 : truthL R E gs ms room minute = [] := by rw [truthL, if_neg (by simp [hsc])]
  with_reducible ((repeat apply xc_seq); apply xcR)
  refine xo_loadN T_ rfl rfl rfl (by repeat first | exact mH | apply mT | apply mA) rfl rfl ?_
  refine xoM ?_
  refine xo_callB (fs := []) (cs := []) rfl rfl rfl roomed_enters rfl (fun w1 hw1 => roomed_no R E A B c c2 gs ms room w1 (hs.below hw1.kx.below).gates (hs.below hw1.kx.below).marks hs.bytes hsc) ?_
  refine xoM ?_
  refine xo_ext rfl rfl rfl rfl ?_
  refine xo_ext rfl rfl rfl rfl ?_
  refine xo_alloc T_ rfl rfl rfl rfl (fun b8 => ?_)
  refine xo_store T_ rfl rfl rfl rfl (by repeat first | exact mH | apply mT | apply mA) rfl rfl rfl rfl (by repeat first | exact Upd.head | apply Upd.tail | apply Upd.app) rfl ?_
  refine xoA ?_
  with_reducible (apply xo_nil; (repeat first | apply xqT | apply xqB | apply xqS); (repeat apply xc_seq); apply xcR)
  refine xoM ?_
  refine xo_neq rfl rfl rfl rfl ?_
  with_reducible (apply xo_nil; (repeat first | apply xqT | apply xqB | apply xqS); (repeat apply xc_seq))
  refine xc_condT rfl ?_
  with_reducible ((repeat apply xc_seq); apply xcR)
  refine xoM ?_
  refine xo_store T_ rfl rfl rfl rfl (by repeat first | exact mH | apply mT | apply mA) rfl rfl rfl rfl (by repeat first | exact Upd.head | apply Upd.tail | apply Upd.app) rfl ?_
  refine xo_store T_ rfl rfl rfl rfl (by repeat first | exact mH | apply mT | apply mA) rfl rfl rfl rfl (by repeat first | exact Upd.head | apply Upd.tail | apply Upd.app) rfl ?_
  with_reducible (apply xo_nil; (repeat first | apply xqT | apply xqB | apply xqS); (repeat apply xc_seq); apply xc_ret; (repeat (first | apply xq_thenR | apply xq_blockR | apply xq_scopeR)))
  exact xq_ofM [] (xq_retC2 T_ rfl rfl rfl rfl rfl (by repeat first | exact mH | apply mT | apply mA) (by repeat first | exact mH | apply mT | apply mA) fun w' hw => ⟨none, by rw [e1, e2]; rfl, by rw [e2]; exact ⟨fun _ => rfl, fun p hp => by cases hp⟩, hw.kx.below⟩)
 cases hrm : roomOK R room
 ·have e1 : truthC R E gs ms room minute = 2 := by simp [truthC, hsc, hrm]
  have e2 : truthL R E gs ms room minute = [] := by rw [truthL, if_neg (by simp [hrm])]
  with_reducible ((repeat apply xc_seq); apply xcR)
  refine xo_loadN T_ rfl rfl rfl (by repeat first | exact mH | apply mT | apply mA) rfl rfl ?_
  refine xoM ?_
  refine xo_callB (fs := []) (cs := []) rfl rfl rfl roomed_enters rfl (fun w1 hw1 => roomed_arg R E A B c c2 gs ms room w1 (hs.below hw1.kx.below).gates (hs.below hw1.kx.below).marks hs.bytes hsc hrm) ?_
  refine xoM ?_
  refine xo_ext rfl rfl rfl rfl ?_
  refine xo_ext rfl rfl rfl rfl ?_
  refine xo_alloc T_ rfl rfl rfl rfl (fun b8 => ?_)
  refine xo_store T_ rfl rfl rfl rfl (by repeat first | exact mH | apply mT | apply mA) rfl rfl rfl rfl (by repeat first | exact Upd.head | apply Upd.tail | apply Upd.app) rfl ?_
  refine xoA ?_
  with_reducible (apply xo_nil; (repeat first | apply xqT | apply xqB | apply xqS); (repeat apply xc_seq); apply xcR)
  refine xoM ?_
  refine xo_neq rfl rfl rfl rfl ?_
  with_reducible (apply xo_nil; (repeat first | apply xqT | apply xqB | apply xqS); (repeat apply xc_seq))
  refine xc_condT rfl ?_
  with_reducible ((repeat apply xc_seq); apply xcR)
  refine xoM ?_
  refine xo_store T_ rfl rfl rfl rfl (by repeat first | exact mH | apply mT | apply mA) rfl rfl rfl rfl (by repeat first | exact Upd.head | apply Upd.tail | apply Upd.app) rfl ?_
  refine xo_store T_ rfl rfl rfl rfl (by repeat first | exact mH | apply mT | apply mA) rfl rfl rfl rfl (by repeat first | exact Upd.head | apply Upd.tail | apply Upd.app) rfl ?_
  with_reducible (apply xo_nil; (repeat first | apply xqT | apply xqB | apply xqS); (repeat apply xc_seq); apply xc_ret; (repeat (first | apply xq_thenR | apply xq_blockR | apply xq_scopeR)))
  exact xq_ofM [] (xq_retC2 T_ rfl rfl rfl rfl rfl (by repeat first | exact mH | apply mT | apply mA) (by repeat first | exact mH | apply mT | apply mA) fun w' hw => ⟨none, by rw [e1, e2]; rfl, by rw [e2]; exact ⟨fun _ => rfl, fun p hp => by cases hp⟩, hw.kx.below⟩)
 have e1 : truthC R E gs ms room minute = if (truthI E R.toNat gs room.toNat ms minute).isSome = true then 0 else 91 := by simp [truthC, hsc, hrm]
 rw [truthL, if_pos ⟨hsc, hrm⟩, e1]
 clear e1
 obtain ⟨hR6, hE6, hG, hm8, hmk⟩ := sceneF_ok hsc
 have hmk' := marks_ok hR6 hmk
 clear hmk
 obtain ⟨n, rfl, hn1, hn6⟩ := nat_of hR6
 obtain ⟨r, rfl, hr⟩ := roomOK_nat hn6 hrm
 have en : ((n : Nat) : Int).toNat = n := rfl
 have er : ((r : Nat) : Int).toNat = r := rfl
 rw [en, er]
 with_reducible ((repeat apply xc_seq); apply xcR)
 refine xo_loadN T_ rfl rfl rfl (by repeat first | exact mH | apply mT | apply mA) rfl rfl ?_
 refine xoM ?_
 refine xo_call (fs := []) (cs := []) rfl rfl rfl roomed_enters rfl (fun w1 hw1 => (roomed_yes n E A B c c2 gs ms r w1 (hs.below hw1.kx.below).gates (hs.below hw1.kx.below).marks hs.bytes hsc hrm).mono ?_)
 rintro e w2 ⟨bs, pre, fb, fc, wb, wc, rfl, hp, hz⟩
 rw [show ((n : Nat) : Int).toNat = n from rfl] at hz
 have hfr : ∀ e ∈ siteH bs (scnV n A gs.length c E B ms.length c2) n gs pre (some (fb, fc)) (some (wb, wc)), w.heap.size ≤ e.1 := fun e he => Nat.le_trans hw1.kx.size ((hz.ow e he (siteH_own e he).1).resolve_right fun q => q)
 refine ⟨_, _, rfl, (hw1.join hz (fun e he => (siteH_own e he).1)).deflag, ?_⟩
 clear hz hw1
 refine xoM ?_
 refine xo_ext rfl rfl rfl rfl ?_
 refine xo_ext rfl rfl rfl rfl ?_
 refine xo_alloc T_ rfl rfl rfl rfl (fun b8 => ?_)
 refine xo_store T_ rfl rfl rfl rfl (by repeat first | exact mH | apply mT | apply mA) rfl rfl rfl rfl (by repeat first | exact Upd.head | apply Upd.tail | apply Upd.app) rfl ?_
 refine xoA ?_
 with_reducible (apply xo_nil; (repeat first | apply xqT | apply xqB | apply xqS))
 have hpl : pre.length = (allD gs).length := by rw [← hp, List.length_map]
 with_reducible ((repeat apply xc_seq); apply xcR)
 refine xoM ?_
 refine xo_neq rfl rfl rfl rfl ?_
 with_reducible (apply xo_nil; (repeat first | apply xqT | apply xqB | apply xqS); (repeat apply xc_seq))
 refine xc_condF rfl ?_
 with_reducible (apply xc_skip; (repeat first | apply xqT | apply xqB | apply xqS))
 have hsite := siteH_site (bs := bs) (sv := scnV n A gs.length c E B ms.length c2) (R := n) (gs := gs) (pre := pre) (rf := some (fb, fc)) (rw_ := some (wb, wc))
 have hwhen := siteH_when (bs := bs) (sv := scnV n A gs.length c E B ms.length c2) (R := n) (gs := gs) (pre := pre) (rf := some (fb, fc)) (wb := wb) (wc := wc)
 have hfarS := siteH_far (bs := bs) (sv := scnV n A gs.length c E B ms.length c2) (R := n) (gs := gs) (pre := pre) (fb := fb) (fc := fc) (rw_ := some (wb, wc))
 have hlist : ∀ x ∈ pre, _ := fun x hx => siteH_list (bs := bs) (sv := scnV n A gs.length c E B ms.length c2) (R := n) (gs := gs) (pre := pre) (rf := some (fb, fc)) (rw_ := some (wb, wc)) hx
 have hsiteOK : ∀ w1, Below w.heap.size w w1 → InW (siteH bs (scnV n A gs.length c E B ms.length c2) n gs pre (some (fb, fc)) (some (wb, wc))) w1 → SiteR w1 bs fb fc (scnV n A gs.length c E B ms.length c2) (valR (some (wb, wc)) pre.length) n gs := fun w1 hb h => siteR_of h hp
 have hInW : ∀ (w1 : World) (η' : Hp), WOK w XNone η' w1 → (∀ e ∈ siteH bs (scnV n A gs.length c E B ms.length c2) n gs pre (some (fb, fc)) (some (wb, wc)), dfl e ∈ η') → SiteR w1 bs fb fc (scnV n A gs.length c E B ms.length c2) (valR (some (wb, wc)) pre.length) n gs := fun w1 η' h h2 => siteR_of (h.inW h2) hp
 generalize hS0 : siteH bs (scnV n A gs.length c E B ms.length c2) n gs pre (some (fb, fc)) (some (wb, wc)) = S0 at hfr hsite hwhen hfarS hlist hInW ⊢
 have hS1 : (bs, false, cel (siteV (scnV n A gs.length c E B ms.length c2) (valR (some (fb, fc)) pre.length) (valR (some (wb, wc)) pre.length)) 83) ∈ S0.map dfl := List.mem_map.2 ⟨_, hsite, rfl⟩
 have hS2 : (wb, false, orow 34 1 pre.length wc (pre.map sliceD)) ∈ S0.map dfl := List.mem_map.2 ⟨_, hwhen, rfl⟩
 with_reducible ((repeat apply xc_seq); apply xcR)
 refine xo_load0 T_ rfl rfl rfl (by repeat first | exact mH | apply mT | apply mA) rfl rfl ?_
 refine xoM ?_
 refine xo_fa T_ rfl rfl rfl rfl rfl ?_
 refine xo_load0 T_ (b := b3) (wr := true) (cs := scnV n A gs.length c E B ms.length c2) (te := 25) rfl rfl rfl (by repeat first | exact mH | apply mT | apply mA) rfl rfl ?_
 refine xo_call (fs := []) (cs := []) rfl rfl rfl began_enters rfl (fun w1 hw1 => (began_calls (.pointer (some ⟨bs, 0, none⟩)) (.slice B ms.length c2) r w1 rfl rfl).mono ?_)
 rintro e w2 ⟨x1, x2, x3, rfl, hz⟩
 refine ⟨_, _, rfl, hw1.join hz (fun e he => by simp only [List.mem_cons, List.not_mem_nil, or_false] at he; rcases he with rfl | rfl | rfl <;> rfl), ?_⟩
 clear hz hw1
 with_reducible (apply xo_nil; (repeat first | apply xqT | apply xqB | apply xqS))
 refine xc_sub (η' := [(x2, true, cel [.slice B ms.length c2] 23), (x3, true, cel [.int .i64 (r : Int)] 3), (x1, true, cel [.pointer (some ⟨bs, 0, none⟩)] 62)] ++ ((b8, true, cel [.pointer (some ⟨bs, 0, none⟩)] 62) :: (S0.map dfl ++ [(b7, true, cel [.int .i64 0] 29), (b6, true, cel [.slice none 0 0] 34), (b5, true, cel [.int .i64 minute] 3)]))) ?_ ?_
 ·refine List.Sublist.append_left (List.Sublist.cons_cons _ (List.Sublist.append_left ?_ _)) _
  exact (by repeat (first | exact List.Sublist.refl _ | apply List.Sublist.cons_cons | apply List.Sublist.cons | exact List.nil_sublist _))
 refine xc_perm ((perm_end _ _ _ _ _).append_left _) ?_
 refine xc_know (φ := (∀ e ∈ [(b8, true), (b7, true), (b6, true), (b5, true)], e.1 ≠ x1 ∧ e.1 ≠ x2 ∧ e.1 ≠ x3 ∧ w.heap.size ≤ e.1 ∧ ∀ q ∈ S0, q.1 ≠ e.1) ∧ bs ≠ x1) (fun w1 hw1 => ?_) fun hne => ?_
 ·have h1 := hw1.nd
  have ho : ∀ e ∈ [(b8, true), (b7, true), (b6, true), (b5, true)], w.heap.size ≤ e.1 := by
   have q8 := hw1.ow (b8, true, cel [.pointer (some ⟨bs, 0, none⟩)] 62) (by repeat first | exact mH | apply mT | apply mA) rfl
   have q7 := hw1.ow (b7, true, cel [.int .i64 0] 29) (by repeat first | exact mH | apply mT | apply mA) rfl
   have q6 := hw1.ow (b6, true, cel [.slice none 0 0] 34) (by repeat first | exact mH | apply mT | apply mA) rfl
   have q5 := hw1.ow (b5, true, cel [.int .i64 minute] 3) (by repeat first | exact mH | apply mT | apply mA) rfl
   intro e he
   simp only [List.mem_cons, List.not_mem_nil, or_false] at he
   rcases he with rfl | rfl | rfl | rfl
   ·exact q8.resolve_right fun q => q
   ·exact q7.resolve_right fun q => q
   ·exact q6.resolve_right fun q => q
   ·exact q5.resolve_right fun q => q
  simp only [List.cons_append, List.nil_append, List.map_cons, List.nodup_cons, List.mem_cons, not_or] at h1
  have hS : ∀ q ∈ S0, q.1 ∈ List.map (fun x => x.1) (S0.map dfl) := fun q hq => List.mem_map.2 ⟨dfl q, List.mem_map.2 ⟨q, hq, rfl⟩, rfl⟩
  obtain ⟨⟨a1, a2, a3, a4, a5, a6, a7⟩, ⟨c1, c2, c3, c4, c5, c6⟩, ⟨d1, d2, d3, d4, d5⟩, ⟨e1, e2, e3, e4⟩, ⟨f1, f2, f3⟩, ⟨g1, g2⟩, k1, _⟩ := h1
  refine ⟨fun e he => ?_, fun q => d5 (q ▸ hS _ hsite)⟩
  have h0 := ho e he
  simp only [List.mem_cons, List.not_mem_nil, or_false] at he
  rcases he with rfl | rfl | rfl | rfl
  ·exact ⟨fun q => d1 q.symm, fun q => a3 q.symm, fun q => c2 q.symm, h0, fun q hq q2 => e4 (by have q3 := hS q hq; rw [q2] at q3; exact q3)⟩
  ·exact ⟨fun q => d2 q.symm, fun q => a4 q.symm, fun q => c3 q.symm, h0, fun q hq q2 => f3 (by have q3 := hS q hq; rw [q2] at q3; exact q3)⟩
  ·exact ⟨fun q => d3 q.symm, fun q => a5 q.symm, fun q => c4 q.symm, h0, fun q hq q2 => g2 (by have q3 := hS q hq; rw [q2] at q3; exact q3)⟩
  ·exact ⟨fun q => d4 q.symm, fun q => a6 q.symm, fun q => c5 q.symm, h0, fun q hq q2 => k1 (by have q3 := hS q hq; rw [q2] at q3; exact q3)⟩
 obtain ⟨hne, _⟩ := hne
 with_reducible ((repeat apply xc_seq); apply xc_block)
 have hMl := (mar_row hs.marks).lt marV_0
 have hglt := hs.glob.lt
 have hrow : ∀ (k : Nat), k < pre.length → ∃ p : Nat × Nat, nth k (pre.map sliceD) = some (.slice (some ⟨p.1, 0, none⟩) ((allD gs).getD k []).length p.2) ∧ (p.1, true, orow 3 1 ((allD gs).getD k []).length p.2 (((allD gs).getD k []).map (.int .i64))) ∈ S0 := by
  intro k hk
  have hx := hlist pre[k] (List.getElem_mem hk)
  have he : (allD gs).getD k [] = pre[k].2 := by
   rw [← hp]
   simp [List.getD_eq_getElem?_getD, List.getElem?_eq_getElem hk]
  rw [he]
  exact ⟨pre[k].1, by rw [nth_eq]; simp [List.getElem?_eq_getElem hk, sliceD], hx⟩
 refine xc_rangeO (α := Nat × SpaT) (β := Nat) (γ := RowR) (enc := encG) (HA := fun _ => []) (T := fun pr x => ∃ rest, beganL E n gs r ms = pr ++ x :: rest) (S := fun xs => xs = beganL E n gs r ms) rfl began1_enters rfl (fun x => rfl)
  (fun k => k < w.heap.size ∨ k = x1 ∨ k = x2 ∨ k = x3 ∨ k = bs ∨ k = fb) (fun w1 hw1 k hk => ?_) (fun w1 hw1 => ?_)
  (fun pr rr => rr = none ∧ ∀ x ∈ pr, inF x.2.f0 x.2.f1 minute = false)
  (fun _ rr => (b8, true, cel [.pointer (some ⟨bs, 0, none⟩)] 62) :: (b7, true, cel [.int .i64 0] 29) :: (b6, true, cel [.slice none 0 0] 34) :: (b5, true, cel [.int .i64 minute] 3) :: S0.map dfl) none ⟨rfl, fun x hx => by cases hx⟩ ?_ (fun pr g hC e he => ?_) (fun pr g hC e he hwr hk => ?_)
  (fun c pr rr => c = .ret ∧ ∃ i p, truthI E n gs r ms minute = some i ∧ rr = some p ∧ (p.1, true, orow 3 1 ((allD gs).getD i []).length p.2 (((allD gs).getD i []).map (.int .i64))) ∈ S0)
  (fun _ _ rr => (b8, true, cel [.pointer (some ⟨bs, 0, none⟩)] 62) :: (b7, true, cel [.int .i64 0] 29) :: (b6, true, cel [valR rr (truthL0 E n gs r ms minute).length] 34) :: (b5, true, cel [.int .i64 minute] 3) :: S0.map dfl) (fun c pr g hC e he => ?_)
  (fun x y => [(8, .pointer (some ⟨b8, 0, none⟩)), (7, .pointer (some ⟨b7, 0, none⟩)), (6, .pointer (some ⟨b6, 0, none⟩)), (5, .pointer (some ⟨b5, 0, none⟩)), (10, .int .i64 (x.1 : Int)), (11, .pointer (some ⟨y, 0, none⟩))]) (fun x y => [(y, true, cel (spaV x.2) 55)]) (fun x y e he => by rw [List.mem_singleton.1 he]; exact ⟨rfl, fun o ho => by rw [show o = _ from ho]; rfl⟩) (fun l x V0 => ?_) (fun l pr x y g W hC hT hw0 => ?_) (fun D xs g hxs hC => ?_) (fun D c pr g hCx => ?_)
 ·rcases hk with hk | rfl | rfl | rfl | rfl | rfl
  ·exact Nat.lt_of_lt_of_le hk hw1.kx.size
  ·exact hw1.lt (e := (k, true, cel [.pointer (some ⟨bs, 0, none⟩)] 62)) (by repeat first | exact mH | apply mT | apply mA)
  ·exact hw1.lt (e := (k, true, cel [.slice B ms.length c2] 23)) (by repeat first | exact mH | apply mT | apply mA)
  ·exact hw1.lt (e := (k, true, cel [.int .i64 (r : Int)] 3)) (by repeat first | exact mH | apply mT | apply mA)
  ·exact ((hInW w1 _ hw1 (fun e he => List.mem_append_right _ (List.mem_append_right _ (List.mem_map.2 ⟨e, he, rfl⟩)))).lts hG).1
  ·exact ((hInW w1 _ hw1 (fun e he => List.mem_append_right _ (List.mem_append_right _ (List.mem_map.2 ⟨e, he, rfl⟩)))).lts hG).2
 ·have hb := hw1.kx.below
  have hSi := hInW w1 _ hw1 (fun e he => List.mem_append_right _ (List.mem_append_right _ (List.mem_map.2 ⟨e, he, rfl⟩)))
  refine began_seq _ n E A B B c ms.length c2 c2 gs ms r x1 x2 x3 bs fb fc _ _ w1 ⟨hn1, hn6⟩ hE6 hG hm8 hmk' (by omega) (hw1.ro (wr := true) (t := 62) (by repeat first | exact mH | apply mT | apply mA)) (hw1.ro (wr := true) (t := 23) (by repeat first | exact mH | apply mT | apply mA)) (hw1.ro (wr := true) (t := 3) (by repeat first | exact mH | apply mT | apply mA)) hSi ((mar_row hs.marks).below hb) (hs.glob.below hb)
   ?_ (.inr (.inl rfl)) (.inr (.inr (.inl rfl))) (.inr (.inr (.inr (.inl rfl)))) (.inr (.inr (.inr (.inr (.inl rfl))))) (.inr (.inr (.inr (.inr (.inr rfl))))) (.inl hglt) (fun h0 ad e => .inl (hMl h0 ad e))
  intro k hk
  rcases hk with hk | rfl | rfl | rfl | rfl | rfl
  ·exact Nat.lt_of_lt_of_le hk hw1.kx.size
  ·exact hw1.lt (e := (k, true, cel [.pointer (some ⟨bs, 0, none⟩)] 62)) (by repeat first | exact mH | apply mT | apply mA)
  ·exact hw1.lt (e := (k, true, cel [.slice B ms.length c2] 23)) (by repeat first | exact mH | apply mT | apply mA)
  ·exact hw1.lt (e := (k, true, cel [.int .i64 (r : Int)] 3)) (by repeat first | exact mH | apply mT | apply mA)
  ·exact (hSi.lts hG).1
  ·exact (hSi.lts hG).2
 ·exact List.sublist_append_right _ _
 ·simp only [List.mem_cons] at he
  rcases he with rfl | rfl | rfl | rfl | he
  ·exact .inl ⟨rfl, fun o ho => by rw [show o = _ from ho]; rfl⟩
  ·exact .inl ⟨rfl, fun o ho => by rw [show o = _ from ho]; rfl⟩
  ·exact .inl ⟨rfl, fun o ho => by rw [show o = _ from ho]; rfl⟩
  ·exact .inl ⟨rfl, fun o ho => by rw [show o = _ from ho]; rfl⟩
  ·exact .inr ⟨e, List.mem_append_right _ (List.mem_append_right _ he), rfl⟩
 ·have key : ∃ q ∈ [(b8, true), (b7, true), (b6, true), (b5, true)], e.1 = q.1 := by
   simp only [List.mem_cons] at he
   rcases he with rfl | rfl | rfl | rfl | he
   ·exact ⟨(b8, true), by simp, rfl⟩
   ·exact ⟨(b7, true), by simp, rfl⟩
   ·exact ⟨(b6, true), by simp, rfl⟩
   ·exact ⟨(b5, true), by simp, rfl⟩
   ·obtain ⟨q, _, rfl⟩ := List.mem_map.1 he
    cases hwr
  obtain ⟨q, hq, e1⟩ := key
  obtain ⟨n1, n2, n3, n4, n5⟩ := hne q hq
  rw [e1] at hk
  rcases hk with hk | hk | hk | hk | hk | hk
  ·omega
  ·exact n1 hk
  ·exact n2 hk
  ·exact n3 hk
  ·exact n5 _ hsite hk.symm
  ·exact n5 _ hfarS hk.symm
 ·simp only [List.mem_cons] at he
  rcases he with rfl | rfl | rfl | rfl | he
  ·exact .inl ⟨rfl, fun o ho => by rw [show o = _ from ho]; rfl⟩
  ·exact .inl ⟨rfl, fun o ho => by rw [show o = _ from ho]; rfl⟩
  ·exact .inl ⟨rfl, fun o ho => by rw [show o = _ from ho]; rfl⟩
  ·exact .inl ⟨rfl, fun o ho => by rw [show o = _ from ho]; rfl⟩
  ·exact .inr ⟨e, List.mem_append_right _ (List.mem_append_right _ he), rfl⟩
 ·with_reducible repeat apply xc_seq
  with_reducible apply xcR
  refine xoA ?_
  with_reducible (apply xo_nil; (repeat first | apply xqT | apply xqB | apply xqS); (repeat apply xc_seq); apply xcR)
  refine xo_alloc T_ rfl rfl rfl rfl (fun b11 => ?_)
  refine xo_store T_ rfl rfl rfl rfl (by repeat first | exact mH | apply mT | apply mA) rfl rfl rfl rfl (by repeat first | exact Upd.head | apply Upd.tail | apply Upd.app) rfl ?_
  with_reducible (apply xo_nil; (repeat first | apply xqT | apply xqB | apply xqS))
  exact fun a w1 ha hw1 => ⟨b11, ha.sub ⟨rfl, rfl, rfl, rfl, rfl, rfl, trivial⟩, hw1⟩
 ·obtain ⟨rfl, hC⟩ := hC
  obtain ⟨rest, hT⟩ := hT
  have hmem : x ∈ beganL E n gs r ms := by rw [hT]; exact List.mem_append_right _ List.mem_cons_self
  have hlt : x.1 < pre.length := by rw [hpl]; exact (beganL_mem.1 hmem).1
  with_reducible ((repeat apply xc_seq); apply xc_block)
  cases hin : inF x.2.f0 x.2.f1 minute
  ·with_reducible repeat apply xc_seq
   with_reducible apply xcR
   refine xo_fa T_ rfl rfl rfl rfl rfl ?_
   refine xo_load0 T_ rfl rfl rfl (by repeat first | exact mH | apply mT | apply mA) rfl rfl ?_
   refine xo_fa T_ rfl rfl rfl rfl rfl ?_
   refine xo_load0 T_ rfl rfl rfl (by repeat first | exact mH | apply mT | apply mA) rfl rfl ?_
   refine xo_load0 T_ rfl rfl rfl (by repeat first | exact mH | apply mT | apply mA) rfl rfl ?_
   refine xo_bs1 T_ rfl rfl rfl rfl rfl rfl rfl rfl (fun b33 => ?_)
   refine xo_callB (fs := []) (cs := []) rfl rfl rfl in_enters rfl (fun w1 hw1 => in_calls hw1 x.2.f0 x.2.f1 minute (by repeat first | exact mH | apply mT | apply mA)) ?_
   refine xo_as (i := 34) rfl (congrArg Value.bool hin) ?_
   with_reducible (apply xo_nil; (repeat first | apply xqT | apply xqB | apply xqS); (repeat apply xc_seq))
   refine xc_condF rfl ?_
   with_reducible (apply xc_skip; (repeat first | apply xqT | apply xqB | apply xqS))
   intro a w1 ha hw1
   refine ⟨none, ⟨rfl, fun q hq => ?_⟩, hw1.sub (by repeat (first | exact List.Sublist.refl _ | apply List.Sublist.cons_cons | apply List.Sublist.cons | exact List.nil_sublist _))⟩
   rcases List.mem_append.1 hq with hq | hq
   ·exact hC q hq
   ·rw [List.mem_singleton.1 hq]; exact hin
  ·have hti : truthI E n gs r ms minute = some x.1 := by
    unfold truthI
    rw [hT, List.find?_append, List.find?_eq_none.2 (fun q hq => by rw [hC q hq]; exact Bool.false_ne_true)]
    simp [hin]
   obtain ⟨p, hp1, hp2⟩ := hrow x.1 hlt
   have hL0 : truthL0 E n gs r ms minute = (allD gs).getD x.1 [] := by unfold truthL0; rw [hti]
   with_reducible ((repeat apply xc_seq); apply xcR)
   refine xo_fa T_ rfl rfl rfl rfl rfl ?_
   refine xo_load0 T_ rfl rfl rfl (by repeat first | exact mH | apply mT | apply mA) rfl rfl ?_
   refine xo_fa T_ rfl rfl rfl rfl rfl ?_
   refine xo_load0 T_ rfl rfl rfl (by repeat first | exact mH | apply mT | apply mA) rfl rfl ?_
   refine xo_load0 T_ rfl rfl rfl (by repeat first | exact mH | apply mT | apply mA) rfl rfl ?_
   refine xo_bs1 T_ rfl rfl rfl rfl rfl rfl rfl rfl (fun b33 => ?_)
   refine xo_callB (fs := []) (cs := []) rfl rfl rfl in_enters rfl (fun w1 hw1 => in_calls hw1 x.2.f0 x.2.f1 minute (by repeat first | exact mH | apply mT | apply mA)) ?_
   refine xo_as (i := 34) rfl (congrArg Value.bool hin) ?_
   with_reducible (apply xo_nil; (repeat first | apply xqT | apply xqB | apply xqS); (repeat apply xc_seq))
   refine xc_condT rfl ?_
   with_reducible ((repeat apply xc_seq); apply xcR)
   refine xo_load0 T_ rfl rfl rfl (by repeat first | exact mH | apply mT | apply mA) rfl rfl ?_
   refine xo_nilck rfl rfl rfl ?_
   refine xo_fa T_ rfl rfl rfl rfl rfl ?_
   refine xo_load0 T_ (b := bs) (i := 5) (wr := false) (cs := siteV (scnV n A gs.length c E B ms.length c2) (valR (some (fb, fc)) pre.length) (valR (some (wb, wc)) pre.length)) (te := 83) (v := .slice (some ⟨wb, 0, none⟩) pre.length wc) rfl rfl rfl (by repeat (first | exact hS1 | apply List.Mem.tail)) rfl rfl ?_
   refine xoM ?_
   refine xo_ia T_ rfl rfl rfl rfl rfl ⟨by omega, by omega⟩ rfl ?_
   refine xo_loadO T_ (k := (x.1 : Int).toNat * szN 0) (wr := false) (v := .slice (some ⟨p.1, 0, none⟩) ((allD gs).getD x.1 []).length p.2) rfl rfl rfl (by repeat (first | exact hS2 | apply List.Mem.tail)) (by rw [show (x.1 : Int).toNat * szN 0 = x.1 by simp [szN], ← nth_eq]; exact hp1) rfl ?_
   refine xo_store T_ rfl rfl rfl rfl (by repeat first | exact mH | apply mT | apply mA) rfl rfl rfl rfl (by repeat first | exact Upd.head | apply Upd.tail | apply Upd.app) rfl ?_
   refine xo_store T_ rfl rfl rfl rfl (by repeat first | exact mH | apply mT | apply mA) rfl rfl rfl rfl (by repeat first | exact Upd.head | apply Upd.tail | apply Upd.app) rfl ?_
   with_reducible (apply xo_nil; (repeat first | apply xqT | apply xqB | apply xqS); apply xc_ret; (repeat (first | apply xq_thenR | apply xq_blockR | apply xq_scopeR)))
   intro a w1 ha hw1
   refine ⟨some p, ⟨rfl, x.1, p, hti, rfl, hp2⟩, ?_⟩
   rw [hL0]
   exact hw1.sub (by repeat (first | exact List.Sublist.refl _ | apply List.Sublist.cons_cons | apply List.Sublist.cons | exact List.nil_sublist _))
 ·obtain ⟨rfl, hC⟩ := hC
  have hti : truthI E n gs r ms minute = none := by
   unfold truthI
   rw [← hxs, List.find?_eq_none.2 (fun q hq => by rw [hC q hq]; exact Bool.false_ne_true)]
   rfl
  have hL0 : truthL0 E n gs r ms minute = [] := by unfold truthL0; rw [hti]
  rw [hti, hL0]
  with_reducible ((repeat first | apply xqT | apply xqB | apply xqS); (repeat apply xc_seq); apply xcR)
  refine xo_store T_ rfl rfl rfl rfl (by repeat first | exact mH | apply mT | apply mA) rfl rfl rfl rfl (by repeat first | exact Upd.head | apply Upd.tail | apply Upd.app) rfl ?_
  refine xo_store T_ rfl rfl rfl rfl (by repeat first | exact mH | apply mT | apply mA) rfl rfl rfl rfl (by repeat first | exact Upd.head | apply Upd.tail | apply Upd.app) rfl ?_
  with_reducible (apply xo_nil; (repeat first | apply xqT | apply xqB | apply xqS); (repeat apply xc_seq); apply xc_ret; (repeat (first | apply xq_thenR | apply xq_blockR | apply xq_scopeR)))
  exact xq_ofM [D] (xq_retC2 T_ rfl rfl rfl rfl rfl (by repeat first | exact mH | apply mT | apply mA) (by repeat first | exact mH | apply mT | apply mA) fun w' hw => ⟨none, rfl, ⟨fun _ => rfl, fun p hp => by cases hp⟩, hw.kx.below⟩)
 ·obtain ⟨rfl, i, p, hti, rfl, hp2⟩ := hCx
  have hL0 : truthL0 E n gs r ms minute = (allD gs).getD i [] := by unfold truthL0; rw [hti]
  rw [hL0, hti]
  with_reducible (apply xc_ret; (repeat (first | apply xq_thenR | apply xq_blockR | apply xq_scopeR)))
  refine xq_ofM [D] (xq_retC2 T_ rfl rfl rfl rfl rfl (by repeat first | exact mH | apply mT | apply mA) (by repeat first | exact mH | apply mT | apply mA) fun w' hw => ⟨some p, rfl, ⟨fun q => (by cases q), fun q hq => ?_⟩, hw.kx.below⟩)
  cases hq
  refine ⟨hfr _ hp2, ?_⟩
  obtain ⟨o, h1, h2⟩ := hw.bl (dfl (p.1, true, orow 3 1 ((allD gs).getD i []).length p.2 (((allD gs).getD i []).map (.int .i64)))) (List.mem_cons_of_mem _ (List.mem_cons_of_mem _ (List.mem_cons_of_mem _ (List.mem_cons_of_mem _ (List.mem_map.2 ⟨_, hp2, rfl⟩)))))
  exact ⟨o, h1, h2⟩
theorem Truth_enters : ∀ args w, (callFunc 13 args).run Tryd.prog w = .ok (.enter 13 args) w := enters_of Tryd.func13 (by kernel_rfl) rfl
def grpS (acc : List SpaT) (m : Int) : List SpaT :=
 if 0 < acc.length ∧ (acc.getD (acc.length - 1) zSpa).f1 = m - 1 then acc.set (acc.length - 1) ⟨(acc.getD (acc.length - 1) zSpa).f0, m⟩ else acc ++ [⟨m, m⟩]
def spansOf (l : List Int) : List SpaT := l.foldl grpS []
def insR (s : List Int) (lo : Int) : Nat → List Int
 | 0 => s
 | n + 1 => insN (lo + n) (insR s lo n)
theorem mem_insR (s : List Int) (lo m : Int) : ∀ n, m ∈ insR s lo n ↔ m ∈ s ∨ (lo ≤ m ∧ m < lo + n)
 | 0 => by simp [insR]; omega
 | n + 1 => by
  rw [insR, mem_insN, mem_insR s lo m n]
  constructor
  ·rintro (h | h | h)
   ·right; omega
   ·exact .inl h
   ·right; omega
  ·rintro (h | h)
   ·exact .inr (.inl h)
   ·by_cases e : m = lo + n
    ·exact .inl e
    ·exact .inr (.inr (by omega))
theorem insN_nodup {s : List Int} {m : Int} (h : s.Nodup) : (insN m s).Nodup := by
 unfold insN
 split
 ·exact h
 ·rename_i hm
  rw [List.nodup_append]
  refine ⟨h, by simp, fun a ha b hb e => ?_⟩
  rw [List.mem_singleton.1 hb] at e
  exact hm (e ▸ ha)
theorem insR_nodup {s : List Int} (lo : Int) (h : s.Nodup) : ∀ n, (insR s lo n).Nodup
 | 0 => h
 | n + 1 => insN_nodup (insR_nodup lo h n)
def toldF (xs : List (Nat × SpaT)) (m : Int) : Bool := xs.any fun x => decide (x.2.f0 ≤ m) && decide (m ≤ x.2.f1)
theorem toldF_iff {xs : List (Nat × SpaT)} {m : Int} : toldF xs m = true ↔ ∃ x ∈ xs, x.2.f0 ≤ m ∧ m ≤ x.2.f1 := by simp [toldF]
def toldL (E : Int) (xs : List (Nat × SpaT)) : List Nat := (List.range (E + 1).toNat).filter fun m => toldF xs (m : Nat)
theorem toldL_rising (E : Int) (xs : List (Nat × SpaT)) : (toldL E xs).Pairwise (· < ·) := List.Pairwise.filter _ List.pairwise_lt_range
theorem told_perm {E : Int} {xs : List (Nat × SpaT)} {ks : List Int} (hE : 0 ≤ E) (hn : ks.Nodup) (hk : ∀ m, m ∈ ks ↔ toldF xs m = true) (hin : ∀ x ∈ xs, 0 ≤ x.2.f0 ∧ x.2.f1 ≤ E) : ks.Perm (intsN (toldL E xs)) := by
 rw [List.perm_ext_iff_of_nodup hn (intsN_nodup ((toldL_rising E xs).imp fun h => by omega))]
 intro m
 rw [hk m]
 unfold intsN toldL
 rw [List.mem_map]
 constructor
 ·intro h
  obtain ⟨x, hx, h1, h2⟩ := toldF_iff.1 h
  have := hin x hx
  refine ⟨m.toNat, List.mem_filter.2 ⟨List.mem_range.2 (by omega), ?_⟩, by omega⟩
  rw [show ((m.toNat : Nat) : Int) = m by omega]
  exact h
 ·rintro ⟨k, hk', rfl⟩
  exact (List.mem_filter.1 hk').2
theorem toldL_len (E : Int) (xs : List (Nat × SpaT)) : (toldL E xs).length ≤ (E + 1).toNat := by
 have := List.length_filter_le (fun m : Nat => toldF xs (m : Nat)) (List.range (E + 1).toNat)
 rwa [List.length_range] at this
theorem sort_told {E : Int} {xs : List (Nat × SpaT)} {ks : List Int} (hp : ks.Perm (intsN (toldL E xs))) : sortF ks = intsN (toldL E xs) := by
 have tr : ∀ a b c : Int, decide (a ≤ b) = true → decide (b ≤ c) = true → decide (a ≤ c) = true := fun a b c h1 h2 => by simp at *; omega
 have tot : ∀ a b : Int, (decide (a ≤ b) || decide (b ≤ a)) = true := fun a b => by simp; omega
 refine List.Perm.eq_of_pairwise (le := fun a b => decide (a ≤ b) = true) (fun a b _ _ h1 h2 => ?_) (List.pairwise_mergeSort tr tot _) ?_ ((List.mergeSort_perm _ _).trans hp)
 ·simp only [decide_eq_true_eq] at h1 h2
  omega
 ·unfold intsN
  rw [List.pairwise_map]
  exact (toldL_rising E xs).imp fun q => by simp; omega
def minutesC (R E : Int) (gs : List GatT) (ms : List MarT) (room : Int) : Int := if sceneF R E gs ms = true then (if roomOK R room = true then 0 else 2) else 90
def minutesL (R E : Int) (gs : List GatT) (ms : List MarT) (room : Int) : List SpaT :=
 if minutesC R E gs ms room = 0 then spansOf (intsN (toldL E (beganL E R.toNat gs room.toNat ms))) else []
def RowZ (e : TypeId) (sz n base : Nat) (w : World) (r : RowR) (cells : List Value) : Prop := (r = none → n = 0) ∧ ∀ p, r = some p → base ≤ p.1 ∧ ∃ o, w.heap[p.1]? = some o ∧ orow e sz n p.2 cells o
theorem WOK.rowZ {w0 : World} {X : Nat → Prop} {η : Hp} {w w' : World} (h : WOK w0 X η w) (hb : Below w.heap.size w w') {e : TypeId} {sz n : Nat} {r : RowR} {xs : List Value} (hr : RowZ e sz n w.heap.size w' r xs) : WOK w0 X (hpR e sz r n xs ++ η) w' := by
 cases r with
 | none => exact h.below hb
 | some p =>
  obtain ⟨h1, o, h2, h3⟩ := hr.2 p rfl
  exact h.more hb h1 h2 h3
theorem RowZ.of {w0 : World} {η : Hp} {w : World} {e : TypeId} {sz n : Nat} {r : RowR} {xs : List Value} (h : WOK w0 XNone (hpR e sz r n xs ++ η) w) (h0 : r = none → n = 0) : RowZ e sz n w0.heap.size w r xs := by
 refine ⟨h0, fun p hp => ?_⟩
 subst hp
 exact ⟨h.own (List.Mem.head _), h.bl (p.1, true, orow e sz n p.2 xs) (List.Mem.head _)⟩
def spaL (l : List SpaT) : List Value := (l.map spaV).flatten
theorem spaL_len (l : List SpaT) : (spaL l).length = l.length * 2 := by
 unfold spaL
 rw [flat_len 2 _ (by intro c hc; obtain ⟨x, _, rfl⟩ := List.mem_map.1 hc; rfl), List.length_map]
theorem spaL_app (l : List SpaT) (x : SpaT) : spaL (l ++ [x]) = spaL l ++ spaV x := by simp [spaL]
theorem spaL_at (l : List SpaT) (k : Nat) (hk : k < l.length) (i : Nat) (hi : i < 2) : (spaL l)[k * 2 + i]? = (spaV (l.getD k zSpa))[i]? := by
 unfold spaL
 rw [flat_at 2 _ k i (by intro c hc; obtain ⟨x, _, rfl⟩ := List.mem_map.1 hc; rfl) hi, List.getElem?_map, List.getElem?_eq_getElem hk]
 simp [List.getD_eq_getElem?_getD, List.getElem?_eq_getElem hk]
theorem spaL_set (l : List SpaT) (k : Nat) (hk : k < l.length) (v : Int) : (spaL l).set (k * 2 + 1) (.int .i64 v) = spaL (l.set k ⟨(l.getD k zSpa).f0, v⟩) := by
 unfold spaL
 rw [flat_set 2 (l.map spaV) k 1 (spaV (l.getD k zSpa)) _ (by intro c hc; obtain ⟨x, _, rfl⟩ := List.mem_map.1 hc; rfl) (by rw [List.getElem?_map, List.getElem?_eq_getElem hk]; simp [List.getD_eq_getElem?_getD, List.getElem?_eq_getElem hk]) (by omega)]
 congr 1
 rw [List.map_set]
 rfl
theorem ad_last (b n j : Nat) (h : 0 < n) : Addr.add (Addr.add ⟨b, 0, none⟩ (((n : Int) - 1).toNat * szN 2)) j = ⟨b, (n - 1) * 2 + j, none⟩ := by
 rw [Addr.add_lit, Addr.add_lit]
 congr 1
 rw [show (((n : Int) - 1).toNat) = n - 1 by omega, show szN 2 = 2 from rfl]
 omega
theorem grpS_len (acc : List SpaT) (m : Int) : (grpS acc m).length ≤ acc.length + 1 := by
 unfold grpS
 split <;> simp
theorem told_add (pr : List (Nat × SpaT)) (x : Nat × SpaT) (m : Int) : toldF (pr ++ [x]) m = (toldF pr m || (decide (x.2.f0 ≤ m) && decide (m ≤ x.2.f1))) := by simp [toldF]
def mapH (b9 b8 b26 : Nat) (g : List Int × SpaT) : Hp := [(b9, true, cel (spaV g.2) 55), (b8, true, cel [.map (some b26)] 65), (b26, true, hmap (setV g.1))]
set_option maxHeartbeats 40000000 in
theorem Minutes_calls (R E : Int) (A B : Option Addr) (c c2 : Nat) (gs : List GatT) (ms : List MarT) (room : Int) (w : World) (hs : SceneAt w A B gs ms) :
  Calls Tryd.prog 7 #[.agg (scnV R A gs.length c E B ms.length c2).toArray, .int .i64 room] w fun e w' => ∃ rr : RowR, e = .returned (.tuple #[valR rr (minutesL R E gs ms room).length, .int .i64 (minutesC R E gs ms room)]) ∧ RowZ 55 2 (minutesL R E gs ms room).length w.heap.size w' rr (spaL (minutesL R E gs ms room)) ∧ Below w.heap.size w w' := by
 refine x_callsM (vs := [.agg (scnV R A gs.length c E B ms.length c2).toArray, .int .i64 room]) 1000 Tryd.func7 rfl rfl rfl (WOK.start XNone w) ?_
 with_reducible ((repeat apply xc_seq); apply xcR)
 refine xo_box rfl rfl rfl rfl (fun b2 => ?_)
 refine xoA ?_
 refine xoA ?_
 with_reducible (apply xo_nil; (repeat first | apply xqT | apply xqB | apply xqS))
 cases hsc : sceneF R E gs ms
 ·have e1 : minutesC R E gs ms room = 90 := by simp [minutesC, hsc]
  have e2 : minutesL R E gs ms room = [] := by rw [minutesL, if_neg (by rw [e1]; decide)]
  with_reducible ((repeat apply xc_seq); apply xcR)
  refine xo_loadN T_ rfl rfl rfl (by repeat first | exact mH | apply mT | apply mA) rfl rfl ?_
  refine xoM ?_
  refine xo_callB (fs := []) (cs := []) rfl rfl rfl roomed_enters rfl (fun w1 hw1 => roomed_no R E A B c c2 gs ms room w1 (hs.below hw1.kx.below).gates (hs.below hw1.kx.below).marks hs.bytes hsc) ?_
  refine xoM ?_
  refine xo_ext rfl rfl rfl rfl ?_
  refine xo_ext rfl rfl rfl rfl ?_
  refine xoA ?_
  refine xoA ?_
  with_reducible (apply xo_nil; (repeat first | apply xqT | apply xqB | apply xqS); (repeat apply xc_seq); apply xcR)
  refine xoM ?_
  refine xo_neq rfl rfl rfl rfl ?_
  with_reducible (apply xo_nil; (repeat first | apply xqT | apply xqB | apply xqS); (repeat apply xc_seq))
  refine xc_condT rfl ?_
  with_reducible ((repeat apply xc_seq); apply xcR)
  refine xoM ?_
  refine xoA ?_
  refine xoA ?_
  with_reducible (apply xo_nil; (repeat first | apply xqT | apply xqB | apply xqS); (repeat apply xc_seq); apply xc_ret; (repeat (first | apply xq_thenR | apply xq_blockR | apply xq_scopeR)))
  exact xq_ofM [] (xq_ret2 rfl rfl rfl fun w' hw => ⟨none, by rw [e1, e2]; rfl, by rw [e2]; exact ⟨fun _ => rfl, fun p hp => by cases hp⟩, hw.kx.below⟩)
 cases hrm : roomOK R room
 ·have e1 : minutesC R E gs ms room = 2 := by simp [minutesC, hsc, hrm]
  have e2 : minutesL R E gs ms room = [] := by rw [minutesL, if_neg (by rw [e1]; decide)]
  with_reducible ((repeat apply xc_seq); apply xcR)
  refine xo_loadN T_ rfl rfl rfl (by repeat first | exact mH | apply mT | apply mA) rfl rfl ?_
  refine xoM ?_
  refine xo_callB (fs := []) (cs := []) rfl rfl rfl roomed_enters rfl (fun w1 hw1 => roomed_arg R E A B c c2 gs ms room w1 (hs.below hw1.kx.below).gates (hs.below hw1.kx.below).marks hs.bytes hsc hrm) ?_
  refine xoM ?_
  refine xo_ext rfl rfl rfl rfl ?_
  refine xo_ext rfl rfl rfl rfl ?_
  refine xoA ?_
  refine xoA ?_
  with_reducible (apply xo_nil; (repeat first | apply xqT | apply xqB | apply xqS); (repeat apply xc_seq); apply xcR)
  refine xoM ?_
  refine xo_neq rfl rfl rfl rfl ?_
  with_reducible (apply xo_nil; (repeat first | apply xqT | apply xqB | apply xqS); (repeat apply xc_seq))
  refine xc_condT rfl ?_
  with_reducible ((repeat apply xc_seq); apply xcR)
  refine xoM ?_
  refine xoA ?_
  refine xoA ?_
  with_reducible (apply xo_nil; (repeat first | apply xqT | apply xqB | apply xqS); (repeat apply xc_seq); apply xc_ret; (repeat (first | apply xq_thenR | apply xq_blockR | apply xq_scopeR)))
  exact xq_ofM [] (xq_ret2 rfl rfl rfl fun w' hw => ⟨none, by rw [e1, e2]; rfl, by rw [e2]; exact ⟨fun _ => rfl, fun p hp => by cases hp⟩, hw.kx.below⟩)
 have e1 : minutesC R E gs ms room = 0 := by simp [minutesC, hsc, hrm]
 rw [minutesL, if_pos e1, e1]
 clear e1
 obtain ⟨hR6, hE6, hG, hm8, hmk⟩ := sceneF_ok hsc
 have hmk' := marks_ok hR6 hmk
 clear hmk
 obtain ⟨n, rfl, hn1, hn6⟩ := nat_of hR6
 obtain ⟨r, rfl, hr⟩ := roomOK_nat hn6 hrm
 have en : ((n : Nat) : Int).toNat = n := rfl
 have er : ((r : Nat) : Int).toNat = r := rfl
 rw [en, er]
 with_reducible ((repeat apply xc_seq); apply xcR)
 refine xo_loadN T_ rfl rfl rfl (by repeat first | exact mH | apply mT | apply mA) rfl rfl ?_
 refine xoM ?_
 refine xo_call (fs := []) (cs := []) rfl rfl rfl roomed_enters rfl (fun w1 hw1 => (roomed_yes n E A B c c2 gs ms r w1 (hs.below hw1.kx.below).gates (hs.below hw1.kx.below).marks hs.bytes hsc hrm).mono ?_)
 rintro e w2 ⟨bs, pre, fb, fc, wb, wc, rfl, hp, hz⟩
 rw [en] at hz
 refine ⟨_, _, rfl, (hw1.join hz (fun e he => (siteH_own e he).1)).deflag, ?_⟩
 clear hz hw1
 refine xoM ?_
 refine xo_ext rfl rfl rfl rfl ?_
 refine xo_ext rfl rfl rfl rfl ?_
 refine xoA ?_
 refine xoA ?_
 with_reducible (apply xo_nil; (repeat first | apply xqT | apply xqB | apply xqS); (repeat apply xc_seq); apply xcR)
 refine xoM ?_
 refine xo_neq rfl rfl rfl rfl ?_
 with_reducible (apply xo_nil; (repeat first | apply xqT | apply xqB | apply xqS); (repeat apply xc_seq))
 refine xc_condF rfl ?_
 with_reducible (apply xc_skip; (repeat first | apply xqT | apply xqB | apply xqS))
 have hsite := siteH_site (bs := bs) (sv := scnV n A gs.length c E B ms.length c2) (R := n) (gs := gs) (pre := pre) (rf := some (fb, fc)) (rw_ := some (wb, wc))
 have hfarS := siteH_far (bs := bs) (sv := scnV n A gs.length c E B ms.length c2) (R := n) (gs := gs) (pre := pre) (fb := fb) (fc := fc) (rw_ := some (wb, wc))
 have hInW : ∀ (w1 : World) (η' : Hp), WOK w XNone η' w1 → (∀ e ∈ siteH bs (scnV n A gs.length c E B ms.length c2) n gs pre (some (fb, fc)) (some (wb, wc)), dfl e ∈ η') → SiteR w1 bs fb fc (scnV n A gs.length c E B ms.length c2) (valR (some (wb, wc)) pre.length) n gs := fun w1 η' h h2 => siteR_of (h.inW h2) hp
 generalize hS0 : siteH bs (scnV n A gs.length c E B ms.length c2) n gs pre (some (fb, fc)) (some (wb, wc)) = S0 at hsite hfarS hInW ⊢
 with_reducible ((repeat apply xc_seq); apply xcR)
 refine xo_mkm rfl rfl (fun b26 => ?_)
 refine xo_alloc T_ rfl rfl rfl rfl (fun b8 => ?_)
 refine xo_store T_ rfl rfl rfl rfl (by repeat first | exact mH | apply mT | apply mA) rfl rfl rfl rfl (by repeat first | exact Upd.head | apply Upd.tail | apply Upd.app) rfl ?_
 with_reducible (apply xo_nil; (repeat first | apply xqT | apply xqB | apply xqS); (repeat apply xc_seq); apply xcR)
 refine xo_build TB_ rfl rfl rfl rfl rfl ?_
 refine xo_alloc T_ rfl rfl rfl rfl (fun b9 => ?_)
 refine xo_store T_ rfl rfl rfl rfl (by repeat first | exact mH | apply mT | apply mA) rfl rfl rfl rfl (by repeat first | exact Upd.head | apply Upd.tail | apply Upd.app) rfl ?_
 with_reducible (apply xo_nil; (repeat first | apply xqT | apply xqB | apply xqS); (repeat apply xc_seq); apply xcR)
 refine xoM ?_
 refine xoM ?_
 refine xo_fa T_ rfl rfl rfl rfl rfl ?_
 refine xo_load0 T_ (b := b2) (wr := true) (cs := scnV n A gs.length c E B ms.length c2) (te := 25) rfl rfl rfl (by repeat first | exact mH | apply mT | apply mA) rfl rfl ?_
 refine xo_call (fs := []) (cs := []) rfl rfl rfl began_enters rfl (fun w1 hw1 => (began_calls (.pointer (some ⟨bs, 0, none⟩)) (.slice B ms.length c2) r w1 rfl rfl).mono ?_)
 rintro e w2 ⟨x1, x2, x3, rfl, hz⟩
 refine ⟨_, _, rfl, hw1.join hz (fun e he => by simp only [List.mem_cons, List.not_mem_nil, or_false] at he; rcases he with rfl | rfl | rfl <;> rfl), ?_⟩
 clear hz hw1
 with_reducible (apply xo_nil; (repeat first | apply xqT | apply xqB | apply xqS))
 refine xc_sub (η' := [(x2, true, cel [.slice B ms.length c2] 23), (x3, true, cel [.int .i64 (r : Int)] 3), (x1, true, cel [.pointer (some ⟨bs, 0, none⟩)] 62)] ++ (mapH b9 b8 b26 ([], ⟨1, 0⟩) ++ S0.map dfl)) (List.Sublist.append_left (List.Sublist.append_left (List.sublist_append_left _ _) (mapH b9 b8 b26 ([], ⟨1, 0⟩))) _) ?_
 refine xc_know (φ := ∀ e ∈ [b9, b8, b26], e ≠ x1 ∧ e ≠ x2 ∧ e ≠ x3 ∧ w.heap.size ≤ e ∧ ∀ q ∈ S0, q.1 ≠ e) (fun w1 hw1 => ?_) fun hne => ?_
 ·have h1 := hw1.nd
  have q8 := hw1.ow (b9, true, cel (spaV ⟨1, 0⟩) 55) (by repeat first | exact mH | apply mT | apply mA) rfl
  have q7 := hw1.ow (b8, true, cel [.map (some b26)] 65) (by repeat first | exact mH | apply mT | apply mA) rfl
  have q6 := hw1.ow (b26, true, hmap (setV [])) (by repeat first | exact mH | apply mT | apply mA) rfl
  simp only [mapH, List.cons_append, List.nil_append, List.map_cons, List.nodup_cons, List.mem_cons, not_or] at h1
  have hS : ∀ q ∈ S0, q.1 ∈ List.map (fun x => x.1) (S0.map dfl) := fun q hq => List.mem_map.2 ⟨dfl q, List.mem_map.2 ⟨q, hq, rfl⟩, rfl⟩
  obtain ⟨⟨a1, a2, a3, a4, a5, a6⟩, ⟨c1, c2, c3, c4, c5⟩, ⟨d1, d2, d3, d4⟩, ⟨e1, e2, e3⟩, ⟨f1, f2⟩, g1, _⟩ := h1
  intro e he
  simp only [List.mem_cons, List.not_mem_nil, or_false] at he
  rcases he with rfl | rfl | rfl
  ·exact ⟨fun q => d1 q.symm, fun q => a3 q.symm, fun q => c2 q.symm, q8.resolve_right fun q => q, fun q hq q2 => e3 (by have q3 := hS q hq; rw [q2] at q3; exact q3)⟩
  ·exact ⟨fun q => d2 q.symm, fun q => a4 q.symm, fun q => c3 q.symm, q7.resolve_right fun q => q, fun q hq q2 => f2 (by have q3 := hS q hq; rw [q2] at q3; exact q3)⟩
  ·exact ⟨fun q => d3 q.symm, fun q => a5 q.symm, fun q => c4 q.symm, q6.resolve_right fun q => q, fun q hq q2 => g1 (by have q3 := hS q hq; rw [q2] at q3; exact q3)⟩
 with_reducible ((repeat apply xc_seq); apply xc_block)
 have hMl := (mar_row hs.marks).lt marV_0
 have hglt := hs.glob.lt
 have hwin : ∀ x ∈ beganL E n gs r ms, 0 ≤ x.2.f0 ∧ x.2.f1 ≤ E ∧ x.2.f0 ≤ x.2.f1 := fun x hx => by
  obtain ⟨_, h2, h3⟩ := beganL_mem.1 hx
  have := winF_in E (farM n gs ((allD gs).getD x.1 []) r) ms
  rw [← h2] at this
  exact ⟨this.1, this.2, h3⟩
 refine xc_rangeO (α := Nat × SpaT) (β := Nat) (γ := List Int × SpaT) (enc := encG) (HA := fun _ => []) (T := fun pr x => ∃ rest, beganL E n gs r ms = pr ++ x :: rest) (S := fun xs => xs = beganL E n gs r ms) rfl began1_enters rfl (fun x => rfl)
  (fun k => k < w.heap.size ∨ k = x1 ∨ k = x2 ∨ k = x3 ∨ k = bs ∨ k = fb) (fun w1 hw1 k hk => ?_) (fun w1 hw1 => ?_)
  (fun pr g => g.1.Nodup ∧ (∀ m, m ∈ g.1 ↔ toldF pr m = true) ∧ ∀ m, g.2.f0 ≤ m → m ≤ g.2.f1 → toldF pr m = true)
  (fun _ g => mapH b9 b8 b26 g ++ S0.map dfl) ([], ⟨1, 0⟩) ⟨List.nodup_nil, fun m => by simp [toldF], fun m h1 h2 => by simp only at h1 h2; omega⟩ ?_ (fun pr g hC e he => ?_) (fun pr g hC e he hwr hk => ?_)
  (fun _ _ _ => False) (fun _ _ _ => []) (fun c pr g hC e he => by cases he)
  (fun x y => [(8, .pointer (some ⟨b8, 0, none⟩)), (9, .pointer (some ⟨b9, 0, none⟩)), (11, .pointer (some ⟨y, 0, none⟩))]) (fun x y => [(y, true, cel (spaV x.2) 55)]) (fun x y e he => by rw [List.mem_singleton.1 he]; exact ⟨rfl, fun o ho => by rw [show o = _ from ho]; rfl⟩) (fun l x V0 => ?_) (fun l pr x y g W hC hT hw0 => ?_) (fun D xs g hxs hC => ?_) (fun D c pr g hCx => hCx.elim)
 ·rcases hk with hk | rfl | rfl | rfl | rfl | rfl
  ·exact Nat.lt_of_lt_of_le hk hw1.kx.size
  ·exact hw1.lt (e := (k, true, cel [.pointer (some ⟨bs, 0, none⟩)] 62)) (by repeat first | exact mH | apply mT | apply mA)
  ·exact hw1.lt (e := (k, true, cel [.slice B ms.length c2] 23)) (by repeat first | exact mH | apply mT | apply mA)
  ·exact hw1.lt (e := (k, true, cel [.int .i64 (r : Int)] 3)) (by repeat first | exact mH | apply mT | apply mA)
  ·exact ((hInW w1 _ hw1 (fun e he => List.mem_append_right _ (List.mem_append_right _ (List.mem_map.2 ⟨e, he, rfl⟩)))).lts hG).1
  ·exact ((hInW w1 _ hw1 (fun e he => List.mem_append_right _ (List.mem_append_right _ (List.mem_map.2 ⟨e, he, rfl⟩)))).lts hG).2
 ·have hb := hw1.kx.below
  have hSi := hInW w1 _ hw1 (fun e he => List.mem_append_right _ (List.mem_append_right _ (List.mem_map.2 ⟨e, he, rfl⟩)))
  refine began_seq _ n E A B B c ms.length c2 c2 gs ms r x1 x2 x3 bs fb fc _ _ w1 ⟨hn1, hn6⟩ hE6 hG hm8 hmk' (by omega) (hw1.ro (wr := true) (t := 62) (by repeat first | exact mH | apply mT | apply mA)) (hw1.ro (wr := true) (t := 23) (by repeat first | exact mH | apply mT | apply mA)) (hw1.ro (wr := true) (t := 3) (by repeat first | exact mH | apply mT | apply mA)) hSi ((mar_row hs.marks).below hb) (hs.glob.below hb)
   ?_ (.inr (.inl rfl)) (.inr (.inr (.inl rfl))) (.inr (.inr (.inr (.inl rfl)))) (.inr (.inr (.inr (.inr (.inl rfl))))) (.inr (.inr (.inr (.inr (.inr rfl))))) (.inl hglt) (fun h0 ad e => .inl (hMl h0 ad e))
  intro k hk
  rcases hk with hk | rfl | rfl | rfl | rfl | rfl
  ·exact Nat.lt_of_lt_of_le hk hw1.kx.size
  ·exact hw1.lt (e := (k, true, cel [.pointer (some ⟨bs, 0, none⟩)] 62)) (by repeat first | exact mH | apply mT | apply mA)
  ·exact hw1.lt (e := (k, true, cel [.slice B ms.length c2] 23)) (by repeat first | exact mH | apply mT | apply mA)
  ·exact hw1.lt (e := (k, true, cel [.int .i64 (r : Int)] 3)) (by repeat first | exact mH | apply mT | apply mA)
  ·exact (hSi.lts hG).1
  ·exact (hSi.lts hG).2
 ·exact List.sublist_append_right _ _
 ·simp only [mapH, List.cons_append, List.nil_append, List.mem_cons] at he
  rcases he with rfl | rfl | rfl | he
  ·exact .inr ⟨_, List.mem_append_right _ (List.Mem.head _), rfl⟩
  ·exact .inr ⟨_, List.mem_append_right _ (List.Mem.tail _ (List.Mem.head _)), rfl⟩
  ·exact .inr ⟨_, List.mem_append_right _ (List.Mem.tail _ (List.Mem.tail _ (List.Mem.head _))), rfl⟩
  ·exact .inr ⟨e, List.mem_append_right _ (List.mem_append_right _ he), rfl⟩
 ·have key : e.1 ∈ [b9, b8, b26] := by
   simp only [mapH, List.cons_append, List.nil_append, List.mem_cons] at he
   rcases he with rfl | rfl | rfl | he
   ·simp
   ·simp
   ·simp
   ·obtain ⟨q, _, rfl⟩ := List.mem_map.1 he
    cases hwr
  obtain ⟨n1, n2, n3, n4, n5⟩ := hne _ key
  rcases hk with hk | hk | hk | hk | hk | hk
  ·omega
  ·exact n1 hk
  ·exact n2 hk
  ·exact n3 hk
  ·exact n5 _ hsite hk.symm
  ·exact n5 _ hfarS hk.symm
 ·with_reducible repeat apply xc_seq
  with_reducible apply xcR
  refine xo_alloc T_ rfl rfl rfl rfl (fun b11 => ?_)
  refine xo_store T_ rfl rfl rfl rfl (by repeat first | exact mH | apply mT | apply mA) rfl rfl rfl rfl (by repeat first | exact Upd.head | apply Upd.tail | apply Upd.app) rfl ?_
  with_reducible (apply xo_nil; (repeat first | apply xqT | apply xqB | apply xqS))
  exact fun a w1 ha hw1 => ⟨b11, ha.sub ⟨rfl, rfl, rfl, trivial⟩, hw1⟩
 ·obtain ⟨rest, hT⟩ := hT
  have hmem : x ∈ beganL E n gs r ms := by rw [hT]; exact List.mem_append_right _ List.mem_cons_self
  obtain ⟨hx1, hx2, hx3⟩ := hwin x hmem
  obtain ⟨hC1, hC2, hC3⟩ := hC
  obtain ⟨ks, last⟩ := g
  simp only at hC1 hC2 hC3
  with_reducible ((repeat apply xc_seq); apply xc_block)
  cases hq : (decide (x.2.f0 = last.f0) && decide (x.2.f1 = last.f1))
  ·with_reducible repeat apply xc_seq
   with_reducible apply xcR
   refine xo_loadN T_ rfl rfl rfl (by repeat first | exact mH | apply mT | apply mA) rfl rfl ?_
   refine xo_loadN T_ rfl rfl rfl (by repeat first | exact mH | apply mT | apply mA) rfl rfl ?_
   refine xo_eqlV rfl rfl rfl (fun w => spa_eq _ _ x.2.f0 x.2.f1 last.f0 last.f1 w) rfl ?_
   refine xo_as (i := 37) rfl (congrArg Value.bool hq) ?_
   with_reducible (apply xo_nil; (repeat first | apply xqT | apply xqB | apply xqS); (repeat apply xc_seq))
   refine xc_condF rfl ?_
   with_reducible (apply xc_skip; (repeat first | apply xqT | apply xqB | apply xqS); (repeat apply xc_seq); apply xcR)
   refine xo_fa T_ rfl rfl rfl rfl rfl ?_
   refine xo_load0 T_ rfl rfl rfl (by repeat first | exact mH | apply mT | apply mA) rfl rfl ?_
   refine xoA ?_
   with_reducible (apply xo_nil; (repeat first | apply xqT | apply xqB | apply xqS); (repeat apply xc_seq); apply xc_block)
   refine xc_loop (γ := Nat) (fun k => k ≤ (x.2.f1 - x.2.f0 + 1).toNat) (fun k => [(8, .pointer (some ⟨b8, 0, none⟩)), (9, .pointer (some ⟨b9, 0, none⟩)), (11, .pointer (some ⟨y, 0, none⟩)), (12, .int .i64 (x.2.f0 + k))])
    (fun k => (y, true, cel (spaV x.2) 55) :: (mapH b9 b8 b26 (insR ks x.2.f0 k, last) ++ S0.map dfl)) (fun k => (x.2.f1 - x.2.f0 + 1).toNat - k) 0 (Nat.zero_le _) ⟨rfl, rfl, rfl, by rw [Int.natCast_zero, Int.add_zero]; rfl, trivial⟩ (List.Sublist.refl _) ?_
   intro k hk
   with_reducible ((repeat apply xc_seq); apply xcR)
   refine xoM ?_
   refine xo_fa T_ rfl rfl rfl rfl rfl ?_
   refine xo_load0 T_ rfl rfl rfl (by repeat first | exact mH | apply mT | apply mA) rfl rfl ?_
   refine xo_leq rfl rfl rfl rfl ?_
   with_reducible (apply xo_nil; (repeat first | apply xqT | apply xqB | apply xqS); (repeat apply xc_seq))
   refine xc_cond rfl (fun h => ?_) (fun h => ?_)
   ·have hlt : k < (x.2.f1 - x.2.f0 + 1).toNat := by have := of_decide_eq_true h; omega
    have hnx : insN (x.2.f0 + k) (insR ks x.2.f0 k) = insR ks x.2.f0 (k + 1) := rfl
    with_reducible (apply xc_skip; (repeat first | apply xqT | apply xqB | apply xqS); (repeat apply xc_seq); apply xc_block; (repeat apply xc_seq); apply xcR)
    refine xo_load0 T_ rfl rfl rfl (by repeat first | exact mH | apply mT | apply mA) rfl rfl ?_
    refine xoM ?_
    refine xo_sins T_ rfl rfl rfl rfl rfl rfl (by repeat first | exact mH | apply mT | apply mA) (by repeat first | exact Upd.head | apply Upd.tail | apply Upd.app) rfl ?_
    with_reducible (apply xo_nil; (repeat first | apply xqT | apply xqB | apply xqS); (repeat apply xc_seq); apply xcR)
    refine xoM ?_
    refine xo_add rfl rfl rfl (by omega) rfl ?_
    refine xoA ?_
    with_reducible (apply xo_nil; (repeat first | apply xqT | apply xqB | apply xqS))
    exact xq_again _ _ _ _ _ (k + 1) (by omega) (by omega) ⟨rfl, rfl, rfl, by rw [show x.2.f0 + ((k + 1 : Nat) : Int) = x.2.f0 + k + 1 by omega]; rfl, trivial⟩ (List.Sublist.refl _)
   have hge : k = (x.2.f1 - x.2.f0 + 1).toNat := by have := of_decide_eq_false h; omega
   subst hge
   with_reducible (apply xc_exit; (repeat (first | apply xq_blockX | apply xq_thenE | refine xq_blockE rfl ?_ | apply xq_scopeE)); (repeat first | apply xqT | apply xqB | apply xqS); (repeat apply xc_seq); apply xcR)
   refine xo_loadN T_ rfl rfl rfl (by repeat first | exact mH | apply mT | apply mA) rfl rfl ?_
   refine xo_store T_ rfl rfl rfl rfl (by repeat first | exact mH | apply mT | apply mA) rfl rfl rfl rfl (by repeat first | exact Upd.head | apply Upd.tail | apply Upd.app) rfl ?_
   with_reducible (apply xo_nil; (repeat first | apply xqT | apply xqB | apply xqS))
   intro a w1 ha hw1
   refine ⟨(insR ks x.2.f0 (x.2.f1 - x.2.f0 + 1).toNat, x.2), ⟨insR_nodup _ hC1 _, fun m => ?_, fun m h1 h2 => ?_⟩, hw1.sub (List.sublist_cons_self _ _)⟩
   ·rw [mem_insR, hC2 m, told_add, Bool.or_eq_true, Bool.and_eq_true, decide_eq_true_eq, decide_eq_true_eq]
    constructor
    ·rintro (h | h)
     ·exact .inl h
     ·exact .inr (by omega)
    ·rintro (h | h)
     ·exact .inl h
     ·exact .inr (by omega)
   ·rw [told_add, Bool.or_eq_true, Bool.and_eq_true, decide_eq_true_eq, decide_eq_true_eq]
    exact .inr ⟨h1, h2⟩
  ·have hq' := hq
   rw [Bool.and_eq_true, decide_eq_true_eq, decide_eq_true_eq] at hq'
   with_reducible ((repeat apply xc_seq); apply xcR)
   refine xo_loadN T_ rfl rfl rfl (by repeat first | exact mH | apply mT | apply mA) rfl rfl ?_
   refine xo_loadN T_ rfl rfl rfl (by repeat first | exact mH | apply mT | apply mA) rfl rfl ?_
   refine xo_eqlV rfl rfl rfl (fun w => spa_eq _ _ x.2.f0 x.2.f1 last.f0 last.f1 w) rfl ?_
   refine xo_as (i := 37) rfl (congrArg Value.bool hq) ?_
   with_reducible (apply xo_nil; (repeat first | apply xqT | apply xqB | apply xqS); (repeat apply xc_seq))
   refine xc_condT rfl ?_
   with_reducible (apply xc_exit; (repeat (first | apply xq_blockX | apply xq_thenE | refine xq_blockE rfl ?_ | apply xq_scopeE)))
   intro a w1 ha hw1
   have hold : ∀ m, toldF (pr ++ [x]) m = toldF pr m := fun m => by
    rw [told_add]
    cases ht : toldF pr m
    ·rw [Bool.false_or, Bool.and_eq_false_iff, decide_eq_false_iff_not, decide_eq_false_iff_not]
     by_cases h1 : x.2.f0 ≤ m
     ·right
      intro h2
      have := hC3 m (by omega) (by omega)
      rw [ht] at this
      cases this
     ·exact .inl h1
    ·rfl
   exact ⟨(ks, last), ⟨hC1, fun m => by rw [hold]; exact hC2 m, fun m h1 h2 => by rw [hold]; exact hC3 m h1 h2⟩, hw1.sub (List.sublist_cons_self _ _)⟩
 ·obtain ⟨hC1, hC2, _⟩ := hC
  obtain ⟨ks, last⟩ := g
  simp only at hC1 hC2
  subst hxs
  have hperm := told_perm hE6.1 hC1 hC2 (fun x hx => ⟨(hwin x hx).1, (hwin x hx).2.1⟩)
  have hsort := sort_told hperm
  have hLl := toldL_len E (beganL E n gs r ms)
  have hLb : ∀ m ∈ toldL E (beganL E n gs r ms), m ≤ 600 := fun m hm => by
   have := List.mem_range.1 (List.mem_filter.1 hm).1
   omega
  have hpl := hperm.length_eq
  generalize toldL E (beganL E n gs r ms) = L at hperm hsort hLl hLb hpl ⊢
  have hil : (intsN L).length = L.length := by simp [intsN]
  with_reducible ((repeat first | apply xqT | apply xqB | apply xqS); (repeat apply xc_seq); apply xcR)
  refine xoA ?_
  with_reducible (apply xo_nil; (repeat first | apply xqT | apply xqB | apply xqS); (repeat apply xc_seq); apply xcR)
  refine xo_load0 T_ rfl rfl rfl (by repeat first | exact mH | apply mT | apply mA) rfl rfl ?_
  refine xo_call (fs := []) (cs := []) rfl rfl rfl keys_enters rfl (fun w1 hw1 => (keys_calls b26 w1).mono ?_)
  rintro e w2 ⟨BK, rfl, hB1, hB2, hb⟩
  refine ⟨_, _, rfl, hw1.more (φ := cel [.map (some b26)] 65) hb hB1 hB2 rfl, ?_⟩
  clear hB1 hB2 hb hw1
  refine xo_call (fs := []) (cs := []) rfl rfl rfl sorted_enters rfl (fun w1 hw1 => (sorted_calls 55 [.pointer (some ⟨BK, 0, none⟩)] keysIter_enters (fun k => k = BK ∨ k = b26) ks ks.length w1 (iter_keys ks b26 BK w1 (hw1.obj (wr := true) (cs := [.map (some b26)]) (by repeat first | exact mH | apply mT | apply mA)) (hw1.imap (wr := true) (by repeat first | exact mH | apply mT | apply mA))) (fun k hk => hk.elim (fun e => e ▸ hw1.lt (e := (BK, true, cel [.map (some b26)] 65)) (by repeat first | exact mH | apply mT | apply mA)) (fun e => e ▸ hw1.lt (e := (b26, true, hmap (setV ks))) (by repeat first | exact mH | apply mT | apply mA))) (by omega) (by omega)).mono ?_)
  rintro e w2 ⟨r11, rfl, hrw, hb⟩
  rw [hsort] at hrw ⊢
  have h11 := hrw.1
  refine ⟨_, _, rfl, hw1.row hb hrw, ?_⟩
  clear hrw hb hw1
  refine xo_len T_ rfl (show _ = some (Value.slice (valA r11) (intsN L).length (valC r11)) from congrArg some (valR_eq (fun q => by rw [h11 q]; rfl))) rfl rfl ?_
  refine xoM ?_
  with_reducible (apply xo_nil; (repeat first | apply xqT | apply xqB | apply xqS))
  have hr11 : r11 = none → L = [] := fun q => by have := h11 q; simpa [intsN] using this
  refine xc_sub (η' := hpR 3 1 r11 (intsN L).length ((intsN L).map (.int .i64)) ++ [(D, true, hdef)]) (List.Sublist.append_left (List.Sublist.cons _ (List.Sublist.cons_cons _ (List.nil_sublist _))) _) ?_
  rw [hil]
  refine xc_slots [(13, .slice none 0 0), (51, .slice (valA r11) L.length (valC r11)), (52, .int .i64 (L.length : Int)), (53, .int .i64 0)] ⟨rfl, congrArg some (valR_eq (fun q => by rw [hr11 q]; rfl)), rfl, rfl, trivial⟩ ?_
  with_reducible ((repeat apply xc_seq); apply xc_block)
  refine xc_loop (γ := Nat × RowR) (fun g => g.1 ≤ L.length ∧ (g.2 = none → (spansOf (intsN (L.take g.1))).length = 0) ∧ (spansOf (intsN (L.take g.1))).length ≤ g.1) (fun g => [(13, valR g.2 (spansOf (intsN (L.take g.1))).length), (51, .slice (valA r11) L.length (valC r11)), (52, .int .i64 (L.length : Int)), (53, .int .i64 (g.1 : Int))])
   (fun g => hpR 55 2 g.2 (spansOf (intsN (L.take g.1))).length (spaL (spansOf (intsN (L.take g.1)))) ++ (hpR 3 1 r11 L.length ((intsN L).map (.int .i64)) ++ [(D, true, hdef)])) (fun g => L.length - g.1) (0, none) ⟨Nat.zero_le _, fun _ => rfl, Nat.le_refl _⟩ ⟨rfl, rfl, rfl, rfl, trivial⟩ (List.Sublist.refl _) ?_
  rintro ⟨k, rr⟩ ⟨hk, hC1, hC2⟩
  simp only at hk hC1 hC2
  with_reducible ((repeat apply xc_seq); apply xcR)
  refine xo_lss rfl rfl rfl rfl ?_
  with_reducible (apply xo_nil; (repeat first | apply xqT | apply xqB | apply xqS); (repeat apply xc_seq))
  refine xc_cond rfl (fun h => ?_) (fun h => ?_)
  ·have hlt : k < L.length := by have := of_decide_eq_true h; omega
   have hstep : spansOf (intsN (L.take (k + 1))) = grpS (spansOf (intsN (L.take k))) ((L.getD k 0 : Nat) : Int) := by
    unfold spansOf intsN
    have e1 : L.getD k 0 = L[k] := by simp [List.getD_eq_getElem?_getD, List.getElem?_eq_getElem hlt]
    rw [e1, List.take_add_one, List.getElem?_eq_getElem hlt, List.map_append, List.foldl_append]
    rfl
   have hxb := hLb _ (getD_mem L 0 k hlt)
   have hget : ((intsN L).map (Value.int .i64))[k]? = some (.int .i64 ((L.getD k 0 : Nat) : Int)) := by
    have e1 : L.getD k 0 = L[k] := by simp [List.getD_eq_getElem?_getD, List.getElem?_eq_getElem hlt]
    rw [e1]
    unfold intsN
    rw [List.map_map, List.getElem?_map, List.getElem?_eq_getElem hlt]
    rfl
   have hlen1 := grpS_len (spansOf (intsN (L.take k))) ((L.getD k 0 : Nat) : Int)
   rcases r11 with _ | ⟨rb, rcap⟩
   ·rw [hr11 rfl] at hlt
    exact absurd hlt (Nat.not_lt_zero _)
   generalize spansOf (intsN (L.take k)) = acc at hC1 hC2 hstep hlen1
   generalize L.getD k 0 = m at hxb hget hstep hlen1
   have hal := spaL_len acc
   with_reducible (apply xc_skip; (repeat first | apply xqT | apply xqB | apply xqS); (repeat apply xc_seq); apply xc_block; (repeat apply xc_seq); apply xcR)
   refine xo_ia T_ (p := ⟨rb, 0, none⟩) rfl rfl rfl rfl rfl ⟨by omega, by omega⟩ rfl ?_
   refine xo_loadO T_ (k := (k : Int).toNat * szN 0) (v := .int .i64 (m : Int)) rfl rfl rfl (List.mem_append_right _ (List.Mem.head _)) (by rw [show (k : Int).toNat * szN 0 = k by simp [szN]]; exact hget) rfl ?_
   refine xoA ?_
   with_reducible (apply xo_nil; (repeat first | apply xqT | apply xqB | apply xqS))
   cases h0 : decide (0 < (acc.length : Int))
   ·have hz : acc.length = 0 := by have := of_decide_eq_false h0; omega
    have hg : grpS acc (m : Int) = acc ++ [⟨m, m⟩] := by rw [grpS, if_neg (by omega)]
    rw [hg] at hstep hlen1
    with_reducible ((repeat apply xc_seq); apply xcR)
    refine xoM ?_
    refine xo_len T_ rfl (show _ = some (Value.slice (valA rr) acc.length (valC rr)) from congrArg some (valR_eq hC1)) rfl rfl ?_
    refine xoA ?_
    with_reducible (apply xo_nil; (repeat first | apply xqT | apply xqB | apply xqS); (repeat apply xc_seq); apply xcR)
    refine xoM ?_
    refine xo_gtr rfl rfl rfl rfl ?_
    refine xo_as (i := 60) rfl (congrArg Value.bool h0) ?_
    refine xoM ?_
    (first | refine xoN ?_ | refine xoM ?_)
    (first | refine xoN ?_ | refine xoM ?_)
    (first | refine xoN ?_ | refine xo_sub rfl rfl rfl (by omega) rfl ?_)
    (first | refine xoN ?_ | refine xo_ia T_ rfl rfl rfl rfl rfl ⟨by omega, by omega⟩ rfl ?_)
    (first | refine xoN ?_ | refine xo_faR T_ rfl rfl rfl rfl rfl ?_)
    (first | refine xoN ?_ | refine xo_loadR0 T_ rfl rfl rfl (by first | assumption | exact RO.fld (by assumption) rfl) rfl ?_)
    (first | refine xoN ?_ | refine xoM ?_)
    (first | refine xoN ?_ | refine xo_sub rfl rfl rfl (by omega) rfl ?_)
    (first | refine xoN ?_ | refine xo_eql rfl rfl rfl rfl ?_)
    first | refine xo_pickT rfl rfl rfl rfl ?_ | refine xo_pickF rfl rfl rfl rfl ?_
    with_reducible (apply xo_nil; (repeat first | apply xqT | apply xqB | apply xqS); (repeat apply xc_seq))
    refine xc_condF rfl ?_
    with_reducible (apply xc_skip; (repeat first | apply xqT | apply xqB | apply xqS); (repeat apply xc_seq); apply xcR)
    refine xoM ?_
    refine xoM ?_
    refine xoM ?_
    refine xo_build TB_ rfl rfl rfl rfl rfl ?_
    refine xo_bsG T_ 2 rfl rfl rfl rfl rfl rfl rfl rfl rfl rfl (fun b82 => ?_)
    refine xo_app TR_ (xs := spaL acc) rfl rfl rfl rfl rfl rfl rfl rfl hal rfl rfl hC1 (by omega) rfl rfl (fun r' hr' => ?_)
    refine xoA ?_
    with_reducible (apply xo_nil; (repeat first | apply xqT | apply xqB | apply xqS); (repeat apply xc_seq); apply xcR)
    refine xo_add rfl rfl rfl (by omega) rfl ?_
    refine xoM ?_
    with_reducible (apply xo_nil; (repeat first | apply xqT | apply xqB | apply xqS))
    refine xq_again _ _ _ _ _ (k + 1, r') ⟨hlt, fun q => absurd q hr', by rw [hstep]; simp; omega⟩ (by simp only; omega) ⟨by rw [hstep, List.length_append]; rfl, rfl, rfl, rfl, trivial⟩ (by rw [hstep, List.length_append, spaL_app]; exact List.Sublist.refl _)
   have hz : 0 < acc.length := by have := of_decide_eq_true h0; omega
   rcases rr with _ | ⟨sb, scap⟩
   ·have := hC1 rfl
    omega
   have hlast : (spaL acc)[(acc.length - 1) * 2 + 1]? = some (.int .i64 (acc.getD (acc.length - 1) zSpa).f1) := spaL_at acc (acc.length - 1) (by omega) 1 (by omega)
   cases hq : decide ((acc.getD (acc.length - 1) zSpa).f1 = (m : Int) - 1)
   ·have hg : grpS acc (m : Int) = acc ++ [⟨m, m⟩] := by rw [grpS, if_neg (fun q => absurd q.2 (of_decide_eq_false hq))]
    rw [hg] at hstep hlen1
    with_reducible ((repeat apply xc_seq); apply xcR)
    refine xoM ?_
    refine xo_len T_ rfl rfl rfl rfl ?_
    refine xoA ?_
    with_reducible (apply xo_nil; (repeat first | apply xqT | apply xqB | apply xqS); (repeat apply xc_seq); apply xcR)
    refine xoM ?_
    refine xo_gtr rfl rfl rfl rfl ?_
    refine xo_as (i := 60) rfl (congrArg Value.bool h0) ?_
    refine xoM ?_
    (first | refine xoN ?_ | refine xoM ?_)
    (first | refine xoN ?_ | refine xoM ?_)
    (first | refine xoN ?_ | refine xo_sub rfl rfl rfl (by omega) rfl ?_)
    (first | refine xoN ?_ | refine xo_ia T_ rfl rfl rfl rfl rfl ⟨by omega, by omega⟩ rfl ?_)
    (first | refine xoN ?_ | refine xo_faR T_ rfl rfl rfl rfl rfl ?_)
    (first | refine xoN ?_ | refine xo_loadZ T_ (v := .int .i64 (acc.getD (acc.length - 1) zSpa).f1) rfl rfl rfl (ad_last sb acc.length 1 hz) (List.Mem.head _) hlast rfl ?_)
    (first | refine xoN ?_ | refine xoM ?_)
    (first | refine xoN ?_ | refine xo_sub rfl rfl rfl (by omega) rfl ?_)
    (first | refine xoN ?_ | refine xo_eql rfl rfl rfl rfl ?_)
    refine xo_as (i := 70) rfl (congrArg Value.bool hq) ?_
    first | refine xo_pickT rfl rfl rfl rfl ?_ | refine xo_pickF rfl rfl rfl rfl ?_
    with_reducible (apply xo_nil; (repeat first | apply xqT | apply xqB | apply xqS); (repeat apply xc_seq))
    refine xc_condF rfl ?_
    with_reducible (apply xc_skip; (repeat first | apply xqT | apply xqB | apply xqS); (repeat apply xc_seq); apply xcR)
    refine xoM ?_
    refine xoM ?_
    refine xoM ?_
    refine xo_build TB_ rfl rfl rfl rfl rfl ?_
    refine xo_bsG T_ 2 rfl rfl rfl rfl rfl rfl rfl rfl rfl rfl (fun b82 => ?_)
    refine xo_app TR_ (r := some (sb, scap)) (xs := spaL acc) rfl rfl rfl rfl rfl rfl rfl rfl hal rfl rfl hC1 (by omega) rfl rfl (fun r' hr' => ?_)
    refine xoA ?_
    with_reducible (apply xo_nil; (repeat first | apply xqT | apply xqB | apply xqS); (repeat apply xc_seq); apply xcR)
    refine xo_add rfl rfl rfl (by omega) rfl ?_
    refine xoM ?_
    with_reducible (apply xo_nil; (repeat first | apply xqT | apply xqB | apply xqS))
    refine xq_again _ _ _ _ _ (k + 1, r') ⟨hlt, fun q => absurd q hr', by rw [hstep]; simp; omega⟩ (by simp only; omega) ⟨by rw [hstep, List.length_append]; rfl, rfl, rfl, rfl, trivial⟩ (by rw [hstep, List.length_append, spaL_app]; exact List.Sublist.refl _)
   ·have hg : grpS acc (m : Int) = acc.set (acc.length - 1) ⟨(acc.getD (acc.length - 1) zSpa).f0, m⟩ := by rw [grpS, if_pos ⟨hz, of_decide_eq_true hq⟩]
    have hset := spaL_set acc (acc.length - 1) (by omega) (m : Int)
    rw [← hg] at hset
    have hgl : (grpS acc (m : Int)).length = acc.length := by rw [hg, List.length_set]
    with_reducible ((repeat apply xc_seq); apply xcR)
    refine xoM ?_
    refine xo_len T_ rfl rfl rfl rfl ?_
    refine xoA ?_
    with_reducible (apply xo_nil; (repeat first | apply xqT | apply xqB | apply xqS); (repeat apply xc_seq); apply xcR)
    refine xoM ?_
    refine xo_gtr rfl rfl rfl rfl ?_
    refine xo_as (i := 60) rfl (congrArg Value.bool h0) ?_
    refine xoM ?_
    (first | refine xoN ?_ | refine xoM ?_)
    (first | refine xoN ?_ | refine xoM ?_)
    (first | refine xoN ?_ | refine xo_sub rfl rfl rfl (by omega) rfl ?_)
    (first | refine xoN ?_ | refine xo_ia T_ rfl rfl rfl rfl rfl ⟨by omega, by omega⟩ rfl ?_)
    (first | refine xoN ?_ | refine xo_faR T_ rfl rfl rfl rfl rfl ?_)
    (first | refine xoN ?_ | refine xo_loadZ T_ (v := .int .i64 (acc.getD (acc.length - 1) zSpa).f1) rfl rfl rfl (ad_last sb acc.length 1 hz) (List.Mem.head _) hlast rfl ?_)
    (first | refine xoN ?_ | refine xoM ?_)
    (first | refine xoN ?_ | refine xo_sub rfl rfl rfl (by omega) rfl ?_)
    (first | refine xoN ?_ | refine xo_eql rfl rfl rfl rfl ?_)
    refine xo_as (i := 70) rfl (congrArg Value.bool hq) ?_
    first | refine xo_pickT rfl rfl rfl rfl ?_ | refine xo_pickF rfl rfl rfl rfl ?_
    with_reducible (apply xo_nil; (repeat first | apply xqT | apply xqB | apply xqS); (repeat apply xc_seq))
    refine xc_condT rfl ?_
    with_reducible ((repeat apply xc_seq); apply xcR)
    refine xoM ?_
    refine xoM ?_
    refine xo_sub rfl rfl rfl (by omega) rfl ?_
    refine xoM ?_
    refine xo_ia T_ rfl rfl rfl rfl rfl ⟨by omega, by omega⟩ rfl ?_
    refine xo_faR T_ rfl rfl rfl rfl rfl ?_
    refine xo_storeZ T_ (η' := (sb, true, orow 55 2 acc.length scap (spaL (grpS acc (m : Int)))) :: (hpR 3 1 (some (rb, rcap)) L.length ((intsN L).map (.int .i64)) ++ [(D, true, hdef)])) rfl rfl rfl (ad_last sb acc.length 1 hz) rfl (List.Mem.head _) rfl rfl (by omega) (by rw [hset]; exact (by repeat first | exact Upd.head | apply Upd.tail | apply Upd.app)) rfl ?_
    with_reducible (apply xo_nil; (repeat first | apply xqT | apply xqB | apply xqS); apply xc_exit; (repeat (first | apply xq_blockX | apply xq_thenE | refine xq_blockE rfl ?_ | apply xq_scopeE)); (repeat first | apply xqT | apply xqB | apply xqS); (repeat apply xc_seq); apply xcR)
    refine xo_add rfl rfl rfl (by omega) rfl ?_
    refine xoM ?_
    with_reducible (apply xo_nil; (repeat first | apply xqT | apply xqB | apply xqS))
    refine xq_again _ _ _ _ _ (k + 1, some (sb, scap)) ⟨hlt, fun q => (by cases q), by rw [hstep, hgl]; omega⟩ (by simp only; omega) ⟨by rw [hstep, hgl]; rfl, rfl, rfl, rfl, trivial⟩ (by rw [hstep, hgl]; exact List.Sublist.refl _)
  have hge : k = L.length := by have := of_decide_eq_false h; omega
  subst hge
  rw [List.take_of_length_le (Nat.le_refl _)] at hC1 ⊢
  with_reducible (apply xc_exit; (repeat (first | apply xq_blockX | apply xq_thenE | refine xq_blockE rfl ?_ | apply xq_scopeE)); (repeat first | apply xqT | apply xqB | apply xqS); (repeat apply xc_seq); apply xcR)
  refine xoM ?_
  refine xoA ?_
  refine xoA ?_
  with_reducible (apply xo_nil; (repeat first | apply xqT | apply xqB | apply xqS); (repeat apply xc_seq); apply xc_ret; (repeat (first | apply xq_thenR | apply xq_blockR | apply xq_scopeR)))
  refine xq_perm (List.perm_append_comm_assoc _ _ _) (xq_sub (η' := _) (List.sublist_append_right _ _) (xq_perm (List.perm_append_singleton _ _) (xq_ofM [D] (xq_ret2 rfl rfl rfl fun w' hw => ⟨rr, rfl, RowZ.of (η := []) (by rw [List.append_nil]; exact hw) hC1, hw.kx.below⟩))))
theorem Minutes_enters : ∀ args w, (callFunc 7 args).run Tryd.prog w = .ok (.enter 7 args) w := enters_of Tryd.func7 (by kernel_rfl) rfl
def bitN (s i : Nat) : Bool := decide (((s / 2 ^ i % 2 : Nat) : Int) = 1)
def chosenL (s : Nat) (ms : List MarT) : Nat → List MarT
 | 0 => []
 | k + 1 => if bitN s k = true then chosenL s ms k ++ [ms.getD k zMar] else chosenL s ms k
def setOf (ms : List MarT) (s : Nat) : List MarT := chosenL s ms ms.length
theorem chosenL_len (s : Nat) (ms : List MarT) : ∀ k, (chosenL s ms k).length ≤ k
 | 0 => Nat.le_refl _
 | k + 1 => by
  have := chosenL_len s ms k
  unfold chosenL
  split
  ·simp; omega
  ·omega
theorem chosenL_mem (s : Nat) (ms : List MarT) : ∀ k, k ≤ ms.length → ∀ m ∈ chosenL s ms k, m ∈ ms
 | 0, _, m, hm => by cases hm
 | k + 1, hk, m, hm => by
  unfold chosenL at hm
  split at hm
  ·rcases List.mem_append.1 hm with hm | hm
   ·exact chosenL_mem s ms k (by omega) m hm
   ·rw [List.mem_singleton.1 hm]; exact getD_mem ms zMar k (by omega)
  ·exact chosenL_mem s ms k (by omega) m hm
def idsL (l : List MarT) : List Int := l.map (·.f0)
theorem cmpL_irr : ∀ x : List MarT, cmpL x x = 0
 | [] => rfl
 | x :: xs => by rw [cmpL, if_pos (by omega)]; exact cmpL_irr xs
theorem cmpL_trans : ∀ x y z : List MarT, cmpL x y < 0 → cmpL y z < 0 → cmpL x z < 0
 | [], [], z, h, _ => by simp [cmpL] at h
 | [], _ :: _, [], _, h => by simp [cmpL] at h
 | [], _ :: _, _ :: _, _, _ => by simp [cmpL]
 | _ :: _, [], _, h, _ => by simp [cmpL] at h
 | _ :: _, _ :: _, [], _, h => by simp [cmpL] at h
 | x :: xs, y :: ys, z :: zs, h1, h2 => by
  rw [cmpL] at h1 h2 ⊢
  have ih := cmpL_trans xs ys zs
  split at h1 <;> split at h2 <;> split <;> first | omega | exact ih h1 h2
theorem cmpL_ntrans : ∀ x y z : List MarT, ¬ cmpL x y < 0 → ¬ cmpL y z < 0 → ¬ cmpL x z < 0
 | [], [], z, _, h => h
 | [], _ :: _, _, h, _ => by simp [cmpL] at h
 | _ :: _, [], [], _, _ => by simp [cmpL]
 | _ :: _, [], _ :: _, _, h => by simp [cmpL] at h
 | _ :: _, _ :: _, [], _, _ => by simp [cmpL]
 | x :: xs, y :: ys, z :: zs, h1, h2 => by
  rw [cmpL] at h1 h2 ⊢
  have ih := cmpL_ntrans xs ys zs
  split at h1 <;> split at h2 <;> split <;> first | omega | exact ih h1 h2
theorem cmpL_ids : ∀ x y : List MarT, ¬ cmpL x y < 0 → ¬ cmpL y x < 0 → idsL x = idsL y
 | [], [], _, _ => rfl
 | [], _ :: _, h, _ => by simp [cmpL] at h
 | _ :: _, [], _, h => by simp [cmpL] at h
 | x :: xs, y :: ys, h1, h2 => by
  rw [cmpL] at h1 h2
  have ih := cmpL_ids xs ys
  by_cases e : x.f0 = y.f0
  ·rw [if_pos (by omega)] at h1 h2
   simp only [idsL, List.map_cons] at ih ⊢
   rw [e, ih h1 h2]
  ·rw [if_neg (by omega)] at h1 h2
   omega
theorem cmpS_irr (x : List MarT) : ¬ cmpS x x < 0 := by rw [cmpS, if_pos rfl, cmpL_irr]; omega
theorem cmpS_trans (x y z : List MarT) (h1 : cmpS x y < 0) (h2 : cmpS y z < 0) : cmpS x z < 0 := by
 have t := cmpL_trans x y z
 unfold cmpS at *
 split at h1 <;> split at h2 <;> split <;> first | omega | exact t h1 h2
theorem cmpS_ntrans (x y z : List MarT) (h1 : ¬ cmpS x y < 0) (h2 : ¬ cmpS y z < 0) : ¬ cmpS x z < 0 := by
 have t := cmpL_ntrans x y z
 unfold cmpS at *
 split at h1 <;> split at h2 <;> split <;> first | omega | exact t h1 h2
theorem cmpS_ids (x y : List MarT) (h1 : ¬ cmpS x y < 0) (h2 : ¬ cmpS y x < 0) : idsL x = idsL y := by
 have t := cmpL_ids x y
 unfold cmpS at *
 split at h1 <;> split at h2 <;> first | omega | exact t h1 h2
def bestF (p : List MarT → Bool) (b : Option (List MarT)) (l : List MarT) : Option (List MarT) := if p l = true then (match b with
 | none => some l
 | some q => if cmpS l q < 0 then some l else some q) else b
def bestL (p : List MarT → Bool) (ls : List (List MarT)) : Option (List MarT) := ls.foldl (bestF p) none
theorem best_spec (p : List MarT → Bool) : ∀ (ls : List (List MarT)) (b0 : Option (List MarT)), (∀ q, b0 = some q → p q = true) →
  (ls.foldl (bestF p) b0 = none ∧ b0 = none ∧ ∀ l ∈ ls, p l = false) ∨ ∃ q, ls.foldl (bestF p) b0 = some q ∧ p q = true ∧ (q ∈ ls ∨ b0 = some q) ∧ (∀ l ∈ ls, p l = true → ¬ cmpS l q < 0) ∧ (∀ r, b0 = some r → ¬ cmpS r q < 0)
 | [], b0, h0 => by
  cases b0 with
  | none => exact .inl ⟨rfl, rfl, fun l hl => by cases hl⟩
  | some q => exact .inr ⟨q, rfl, h0 q rfl, .inr rfl, (fun l hl => by cases hl), fun r hr => by cases hr; exact cmpS_irr q⟩
 | l :: ls, b0, h0 => by
  rw [List.foldl_cons]
  cases hp : p l
  ·have e : bestF p b0 l = b0 := by unfold bestF; rw [if_neg (by rw [hp]; exact Bool.false_ne_true)]
   rw [e]
   rcases best_spec p ls b0 h0 with ⟨h1, h2, h3⟩ | ⟨q, h1, h2, h3, h4, h5⟩
   ·exact .inl ⟨h1, h2, fun x hx => by rcases List.mem_cons.1 hx with rfl | hx; exact hp; exact h3 x hx⟩
   ·exact .inr ⟨q, h1, h2, h3.imp_left (List.mem_cons_of_mem _), (fun x hx => by rcases List.mem_cons.1 hx with rfl | hx; exact fun h => absurd (h.symm.trans hp) (by decide); exact h4 x hx), h5⟩
  ·have e : ∃ r, bestF p b0 l = some r ∧ (r = l ∨ b0 = some r) ∧ ¬ cmpS l r < 0 ∧ ∀ s, b0 = some s → ¬ cmpS s r < 0 := by
    unfold bestF
    rw [if_pos hp]
    cases b0 with
    | none => exact ⟨l, rfl, .inl rfl, cmpS_irr l, fun s hs => by cases hs⟩
    | some q =>
     simp only
     split
     ·rename_i hlt
      exact ⟨l, rfl, .inl rfl, cmpS_irr l, fun s hs => by cases hs; exact fun h => cmpS_irr _ (cmpS_trans _ _ _ hlt h)⟩
     ·rename_i hge
      exact ⟨q, rfl, .inr rfl, hge, fun s hs => by cases hs; exact cmpS_irr q⟩
   obtain ⟨r, e1, e2, e3, e4⟩ := e
   rw [e1]
   have hr : p r = true := by
    rcases e2 with rfl | e2
    ·exact hp
    ·exact h0 r e2
   rcases best_spec p ls (some r) (fun q hq => by cases hq; exact hr) with ⟨_, h2, _⟩ | ⟨q, h1, h2, h3, h4, h5⟩
   ·cases h2
   ·have hrq := h5 r rfl
    refine .inr ⟨q, h1, h2, ?_, (fun x hx => ?_), fun s hs => cmpS_ntrans _ _ _ (e4 s hs) hrq⟩
    ·rcases h3 with h3 | h3
     ·exact .inl (List.mem_cons_of_mem _ h3)
     ·cases h3
      rcases e2 with rfl | e2
      ·exact .inl List.mem_cons_self
      ·exact .inr e2
    ·rcases List.mem_cons.1 hx with rfl | hx
     ·exact fun _ => cmpS_ntrans _ _ _ e3 hrq
     ·exact h4 x hx
def fewestL (p : List MarT → Bool) (ls : List (List MarT)) : List Int := match bestL p ls with
 | none => []
 | some q => idsL q
theorem first_best (p : List MarT → Bool) {ls ys : List (List MarT)} (hp : ys.Perm ls) (hs : ys.Pairwise fun x y => ¬ cmpS y x < 0) : (match ys.find? p with | none => [] | some q => idsL q) = fewestL p ls := by
 unfold fewestL bestL
 rcases best_spec p ls none (fun q hq => by cases hq) with ⟨h1, _, h3⟩ | ⟨q, h1, h2, h3, h4, _⟩
 ·rw [h1, List.find?_eq_none.2 (fun x hx => by rw [h3 x (hp.mem_iff.1 hx)]; exact Bool.false_ne_true)]
 ·rw [h1]
  have hq : q ∈ ys := hp.mem_iff.2 (h3.resolve_right fun x => by cases x)
  cases hf : ys.find? p with
  | none =>
   rw [List.find?_eq_none] at hf
   exact absurd h2 (hf q hq)
  | some r =>
   simp only
   obtain ⟨hr, l1, l2, rfl, hno⟩ := List.find?_eq_some_iff_append.1 hf
   refine cmpS_ids r q (h4 r (hp.mem_iff.1 (by simp)) hr) ?_
   -- q lies behind r, or is r
   rw [List.pairwise_append] at hs
   rcases List.mem_append.1 hq with hq | hq
   ·have := hno q hq
    rw [h2] at this
    cases this
   ·rcases List.mem_cons.1 hq with rfl | hq
    ·exact cmpS_irr q
    ·exact (List.pairwise_cons.1 hs.2.1).1 q hq
structure SetV where
 A : Option Addr
 C : Nat
 l : List MarT
def setS (x : SetV) : Value := .slice x.A x.l.length x.C
def SetOK (b : Nat) (w : World) (x : SetV) : Prop := RowOf marV 7 zMar w x.A x.l ∧ IdsOK x.l ∧ (0 < x.l.length → ∀ ad, x.A = some ad → ad.block ≠ b)
theorem take_putCellsG {α : Type} [Inhabited α] (enc : α → Value) (cur : Array Value) (ts : List α) (h : ts.length ≤ cur.size) : (Sort.putCells enc 0 ts.toArray cur).toList.take ts.length = ts.map enc := by
 apply List.ext_getElem?
 intro j
 by_cases hj : j < ts.length
 ·rw [List.getElem?_take_of_lt hj, Array.getElem?_toList]
  simp [Sort.putCells, hj, show j < cur.size by omega]
 ·rw [List.getElem?_take_eq_none (by omega), List.getElem?_eq_none (by simp; omega)]
theorem sortWorld_grown {α : Type} [Inhabited α] (enc : α → Value) {w : World} {g n : Nat} {os : Array Obj} (d : Array α) : w.grownBy (sortWorld enc w g 0 n d os) (some g) := by
 unfold sortWorld
 refine ⟨rfl, rfl, rfl, by simp, fun k hk hne => ?_⟩
 rw [Sort.heap_grow_old _ _ (by simpa using hk)]
 have : g ≠ k := fun e => hne (by rw [e])
 simp [Sort.putRow, Sort.mapBlock, Sort.ahead, Array.getElem?_modify, this]
theorem sortWorld_at {α : Type} [Inhabited α] (enc : α → Value) {w : World} {g n : Nat} {os : Array Obj} {cur : Array Value} {e : TypeId} {fr : Nat × Nat} (d : Array α) (hb : w.heap[g]? = some (.cells cur e fr)) : (sortWorld enc w g 0 n d os).heap[g]? = some (.cells (Sort.putCells enc 0 d cur) e fr) := by
 unfold sortWorld
 have hg : g < w.heap.size := (Array.getElem?_eq_some_iff.1 hb).1
 rw [Sort.heap_grow_old _ _ (by simpa using hg)]
 simp [Sort.putRow, Sort.mapBlock, Sort.ahead, Array.getElem?_modify, hb, Sort.onCells]
theorem sortSets_enters : ∀ args w, (callFunc 76 args).run Tryd.prog w = .ok (.enter 76 args) w := enters_of Tryd.func76 (by kernel_rfl) rfl
theorem sortSets_calls (b cap B : Nat) (xs : List SetV) (w : World) (o : Obj) (h1 : w.heap[b]? = some o) (h2 : orow 23 1 xs.length cap (xs.map setS) o) (hx : ∀ x ∈ xs, SetOK b w x) (hl : xs.length ≤ 1000000) (hB : RO w XNone ⟨B, 0, none⟩ [.func (.func 75) #[] #[]]) (hne : B ≠ b) :
  Calls Tryd.prog 76 #[.slice (some ⟨b, 0, none⟩) xs.length cap, .func (.func 77) #[] #[.pointer (some ⟨B, 0, none⟩)]] w fun e w' => e = .returned (.tuple #[]) ∧ Kx (fun k => k = b) w w' ∧ ∃ ys : List SetV, ys.Perm xs ∧ (ys.map (·.l)).Pairwise (fun x y => ¬ cmpS y x < 0) ∧ ∃ o', w'.heap[b]? = some o' ∧ orow 23 1 xs.length cap (ys.map setS) o' := by
 obtain ⟨cur, rfl, h5, h6, h7, h8⟩ := h2
 rw [Nat.mul_one] at h7 h8
 have hlt : b < w.heap.size := (Array.getElem?_eq_some_iff.1 h1).1
 letI : Inhabited {x : SetV // SetOK b w x} := ⟨⟨⟨none, 0, []⟩, fun k hk => absurd hk (Nat.not_lt_zero _), ⟨Nat.zero_le _, fun m hm => by cases hm⟩, fun h => absurd h (Nat.not_lt_zero _)⟩⟩
 let enc : {x : SetV // SetOK b w x} → Value := fun x => setS x.1
 let cf : {x : SetV // SetOK b w x} → {x : SetV // SetOK b w x} → Int := fun x y => cmpS x.1.l y.1.l
 let d : List {x : SetV // SetOK b w x} := xs.attach.map fun x => ⟨x.1, hx x.1 x.2⟩
 have hd : d.map (·.1) = xs := by simp [d]
 have hdl : d.length = xs.length := by simp [d]
 have hde : d.map enc = xs.map setS := by
  have := congrArg (List.map setS) hd
  rw [List.map_map] at this
  exact this
 have hO : Sort.SWO (ltOf cf) := ⟨fun x => by simpa [ltOf, cf] using cmpS_irr x.1.l, fun x y z h1 h2 => by simp only [ltOf, decide_eq_true_eq] at *; exact cmpS_trans _ _ _ h1 h2, fun x y z h1 h2 => by simp only [ltOf, decide_eq_false_iff_not] at *; exact cmpS_ntrans _ _ _ h1 h2⟩
 have hH : Sort.Holds enc w b 0 d.toArray := by
  intro j hj
  have hj' : j < d.length := by simpa using hj
  refine ⟨?_, by simp [World.frozen?, h1]⟩
  have h9 : (cur.toList.take xs.length)[j]? = (d.map enc)[j]? := by rw [h8, hde]
  rw [List.getElem?_take_of_lt (by omega)] at h9
  simp only [World.cell?, h1, Nat.zero_add]
  simp only [Option.isSome_none, Bool.false_eq_true, if_false]
  rw [← Array.getElem?_toList, h9]
  simp [hj']
 have hcmp : CmpLays1 Tryd.prog 77 #[.pointer (some ⟨B, 0, none⟩)] enc cf b 0 d.toArray.size w := by
  intro m os dk hs x y
  have hg := sortWorld_grown enc (w := w) (g := b) (n := m) (os := os) dk
  have hkeep : ∀ k, (k ≠ b ∧ k < w.heap.size) → (sortWorld enc w b 0 m dk os).heap[k]? = w.heap[k]? := fun k hk => hg.block k hk.2 (fun q => hk.1 (Option.some.inj q))
  have hrow : ∀ x : {x : SetV // SetOK b w x}, RowOf marV 7 zMar (sortWorld enc w b 0 m dk os) x.1.A x.1.l := fun x => x.2.1.keep (fun k => k ≠ b ∧ k < w.heap.size) (fun h ad e => ⟨x.2.2.2 h ad e, x.2.1.lt marV_0 h ad e⟩) hkeep
  exact Q.fewer_calls x.1.A y.1.A x.1.C y.1.C x.1.l y.1.l B _ x.2.2.1 y.2.2.1 (hrow x) (hrow y) (RO.blk hB (hkeep B ⟨hne, hB.lt⟩))
 have hc := Any.slices_SortFunc laysF enc (fun _ => rfl) cf hO 77 #[.pointer (some ⟨B, 0, none⟩)] b 0 cap d.toArray w Q.fewer_enters hcmp hH hlt (by simp [d]; omega)
 rw [show d.toArray.size = xs.length by simp [d]] at hc
 refine Calls.mono (show Calls Tryd.prog 76 _ _ _ from hc) ?_
 rintro e w' ⟨rfl, d', n, os, hp, hsd, rfl⟩
 have hg := sortWorld_grown enc (w := w) (g := b) (n := n) (os := os) d'
 have hsz : d'.size = xs.length := by rw [hp.1]; simp [d]
 have hperm : d'.toList.Perm d := by
  have := hp.2.2
  rw [Array.extract_eq_self_of_le (by omega), Array.extract_eq_self_of_le (by simp [d])] at this
  simpa using this
 refine ⟨rfl, ⟨hg.os, hg.tape, hg.output, hg.size, fun k hk hne => hg.block k hk (fun q => hne (Option.some.inj q))⟩, d'.toList.map (·.1), ?_, ?_, _, sortWorld_at enc d' h1, _, rfl, h5, h6, ?_, ?_⟩
 ·rw [← hd]; exact hperm.map _
 ·rw [List.map_map, List.pairwise_map, List.pairwise_iff_getElem]
  intro i j hi hj hij
  have h := hsd i j (Nat.zero_le _) hij (by simpa [hsz] using hj)
  simp only [ltOf, decide_eq_false_iff_not] at h
  have hi' : i < d'.size := by simpa using hi
  have hj' : j < d'.size := by simpa using hj
  rw [getElem!_pos d' i hi', getElem!_pos d' j hj'] at h
  simpa using h
 ·rw [Nat.mul_one, ← h7]
  simp [Sort.putCells]
 ·rw [Nat.mul_one, List.map_map]
  have := take_putCellsG enc cur d'.toList (by simp; omega)
  rw [Array.length_toList, hsz, Array.toArray_toList] at this
  exact this
end Go.Proofs.YtommeljlfkmpjaaDoor
