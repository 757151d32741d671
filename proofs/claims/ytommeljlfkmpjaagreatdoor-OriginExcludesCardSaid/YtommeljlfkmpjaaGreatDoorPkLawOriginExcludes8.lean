/- maps.Keys over a set of whole numbers: an iterator that yields its members in some order. / slices.Sort, slices.Sorted over a set's keys: the members in rising order. / The library's own functions that the shelf's contract asks, where they lie in this program. / slices.Sort of a nil row; slices.Sorted over a set's keys. / origin: roomed, rooms, Rooms, Named. / origin: Rooms, Named, Truth. / origin.Truth. / origin: minutes told, as spans: plain. / origin.Minutes. / origin: sets of marks, the order in which fewest sorts them, the first of which something is so: plain; slices.SortFunc by the shelf's contract. / origin: chosen, first, fewest. / origin.fewest: the numbers of the fewest marks of which something is so. / origin: Why, Against. / SX: all ways through a region with guards meet again (mark #M). No program in sight. -/
import Derived.Test.YtommeljlfkmpjaaGreatDoorPkLawOriginExcludes2
import Derived.Test.YtommeljlfkmpjaaGreatDoorPkLawOriginExcludes3
import Derived.Test.YtommeljlfkmpjaaGreatDoorPkLawOriginExcludes7
import Derived.Sort.OwnSortedInts
import Derived.Shelf.Small.Bits
import Derived.Shelf.Lays
import Derived.Test.YtommeljlfkmpjaaGreatDoorPkLawOriginExcludes4
namespace Go.Proofs.YtommeljlfkmpjaaGreatDoor
open Go.RowKit
set_option linter.unusedVariables false
set_option linter.unusedSimpArgs false
theorem keys_uniq {es : Array MapEntry} {c : Nat} {l : List (Int × Value)} (hE : Ents es c l) {e e' : MapEntry} (he : e ∈ es.toList) (he' : e' ∈ es.toList) (h : e.key = e'.key) : e.born = e'.born := by
 have h1 : (es.toList.map (·.key)) = l.map (fun p => Value.int .i64 p.1) := by
   have := congrArg (List.map Prod.fst) hE.is
   simpa [List.map_map, Function.comp_def, kvE, kvI] using this
 have h2 : (es.toList.map (·.key)).Nodup := by
   rw [h1, show (fun p : Int × Value => Value.int .i64 p.1) = (fun n => Value.int .i64 n) ∘ Prod.fst from rfl, ← List.map_map]
   refine List.Pairwise.map _ ?_ hE.keys
   intro a b hab q
   injection q with _ q
   exact hab q
 obtain ⟨i, hi, rfl⟩ := List.getElem_of_mem he
 obtain ⟨j, hj, rfl⟩ := List.getElem_of_mem he'
 by_cases e : i = j
 · subst e; rfl
 · exfalso
   rw [List.nodup_iff_pairwise_ne, List.pairwise_iff_getElem] at h2
   by_cases hij : i < j
   · exact h2 i j (by simpa using hi) (by simpa using hj) hij (by simpa using h)
   · exact h2 j i (by simpa using hj) (by simpa using hi) (by omega) (by simpa using h.symm)
theorem keys_nodup {es : Array MapEntry} {c : Nat} {s : List Int} (hE : Ents es c (setV s)) : s.Nodup := by
 have h := hE.keys
 simpa [setV, List.map_map, Function.comp_def] using h
/-- what has been yielded: the keys of the entries that were seen -/
def Seen (es : Array MapEntry) (seen : Array Nat) (ys : List Int) : Prop := ys.Nodup ∧ ∀ n, n ∈ ys ↔ ∃ e ∈ es.toList, seen.contains e.born = true ∧ e.key = .int .i64 n
theorem Seen.step {es : Array MapEntry} {c : Nat} {s : List Int} (hE : Ents es c (setV s)) {seen : Array Nat} {ys : List Int} (h : Seen es seen ys) {e : MapEntry} (he : e ∈ es.toList) (hns : seen.contains e.born = false) {k : Int} (hk : e.key = .int .i64 k) : Seen es (seen.push e.born) (ys ++ [k]) := by
 obtain ⟨h1, h2⟩ := h
 refine ⟨List.nodup_append.2 ⟨h1, by simp, fun a ha b hb q => ?_⟩, fun n => ?_⟩
 · simp at hb
   subst hb
   subst q
   obtain ⟨e', he', h3, h4⟩ := (h2 a).1 ha
   rw [keys_uniq hE he' he (h4.trans hk.symm)] at h3
   rw [h3] at hns
   cases hns
 · rw [List.mem_append, List.mem_singleton, h2]
   constructor
   · rintro (⟨e', he', h3, h4⟩ | rfl)
     · exact ⟨e', he', by simp at h3 ⊢; exact .inl h3, h4⟩
     · exact ⟨e, he, by simp, hk⟩
   · rintro ⟨e', he', h3, h4⟩
     simp at h3
     rcases h3 with h3 | h3
     · exact .inl ⟨e', he', by simpa using h3, h4⟩
     · right
       obtain ⟨i, hi, rfl⟩ := List.getElem_of_mem he
       obtain ⟨j, hj, rfl⟩ := List.getElem_of_mem he'
       have hij : i = j := by
         have ho := hE.once
         by_cases q : i = j
         · exact q
         · exfalso
           rw [List.nodup_iff_pairwise_ne, List.pairwise_iff_getElem] at ho
           by_cases hl : i < j
           · exact ho i j (by simpa using hi) (by simpa using hj) hl (by simpa using h3.symm)
           · exact ho j i (by simpa using hj) (by simpa using hi) (by omega) (by simpa using h3)
       subst hij
       rw [hk] at h4
       injection h4 with _ h4
       exact h4.symm
theorem Seen.sub {es : Array MapEntry} {c : Nat} {s : List Int} (hE : Ents es c (setV s)) {seen : Array Nat} {ys : List Int} (h : Seen es seen ys) : ∀ n ∈ ys, n ∈ s := fun n hn => by
 obtain ⟨e, he, _, h4⟩ := (h.2 n).1 hn
 obtain ⟨k, hk, h5, _⟩ := hE.setV he
 rw [h5] at h4
 injection h4 with _ h4
 rwa [← h4]
theorem Seen.len {es : Array MapEntry} {c : Nat} {s : List Int} (hE : Ents es c (setV s)) {seen : Array Nat} {ys : List Int} (h : Seen es seen ys) : ys.length ≤ s.length := by
 have hp : (s.filter fun n => decide (n ∈ ys)).Perm ys := (List.perm_ext_iff_of_nodup ((keys_nodup hE).filter _) h.1).2 fun n => by
   simp only [List.mem_filter, decide_eq_true_eq]
   exact ⟨fun q => q.2, fun q => ⟨h.sub hE n q, q⟩⟩
 rw [← hp.length_eq]
 exact List.length_filter_le _ _
theorem Seen.all {es : Array MapEntry} {c : Nat} {s : List Int} (hE : Ents es c (setV s)) {seen : Array Nat} {ys : List Int} (h : Seen es seen ys) (hall : ∀ e ∈ es.toList, seen.contains e.born = true) : ys.Perm s :=
 (List.perm_ext_iff_of_nodup h.1 (keys_nodup hE)).2 fun n => ⟨h.sub hE n, fun hn => by
   have : (Value.int .i64 n, Value.bool true) ∈ es.toList.map kvE := by
     rw [hE.is, Go.Proofs.YtommeljlfkmpjaaGreatDoor.setV, List.map_map]
     exact List.mem_map.2 ⟨n, hn, rfl⟩
   obtain ⟨e, he, q⟩ := List.mem_map.1 this
   exact (h.2 n).2 ⟨e, he, hall e he, congrArg Prod.fst q⟩⟩
theorem keysIter_enters : ∀ args w, (callFunc 77 args).run Tryz.prog w = .ok (.enter 77 args) w := enters_of Tryz.func77 (by kernel_rfl) rfl
set_option maxHeartbeats 4000000 in
theorem iter_keys (s : List Int) (M0 B : Nat) (wB : World) (hB : wB.heap[B]? = some (.cells #[.map (some M0)] 89 (0, 0))) (hM : IMap wB M0 (setV s)) :
   IterS Tryz.prog 77 [.pointer (some ⟨B, 0, none⟩)] wB (fun k => k = B ∨ k = M0) (fun ys => ys.Perm s) s.length := by
 intro w hszB hneed K hK m l J Jx W hW hJ hJx hY h0
 have ltB : B < wB.heap.size := (Array.getElem?_eq_some_iff.1 hB).1
 have ltM := hM.lt
 have gB : W.heap[B]? = _ := (hW.block B (by omega)).trans ((hneed B (.inl rfl)).trans hB)
 have gM : IMap W M0 (setV s) := hM.at_ ((hW.block M0 (by omega)).trans (hneed M0 (.inr rfl)))
 have nBM : B ≠ M0 := fun e => by obtain ⟨es, cl, h, _⟩ := gM; rw [← e, gB] at h; cases h
 have hszW := hW.size
 have hw0 : WOK W XNone [(B, false, cel [.map (some M0)] 89), (M0, false, hmap (setV s))] W := by
   refine ⟨Kx.refl _ W, ?_, by simp [nBM], by simp⟩
   intro e he
   simp only [List.mem_cons, List.not_mem_nil, or_false] at he
   rcases he with rfl | rfl
   · exact ⟨_, gB, rfl⟩
   · exact hmap_of gM
 refine x_iter Tryz.func77 rfl rfl rfl hw0 ?_
 with_reducible ((repeat refine xc_seq ?_); refine xcR ?_)
 refine xo_load0 T_ rfl rfl rfl (by repeat first | exact memH | apply memT | apply memA) rfl rfl ?_
 refine xo_rangeM T_ rfl rfl rfl (by repeat first | exact memH | apply memT | apply memA) (fun es c => Rep.tail Rep.head) rfl (fun r5 es c hE => ?_)
 with_reducible (refine xo_nil ?_; (repeat (first | refine xqT ?_ | refine xqB ?_ | refine xqS ?_)); (repeat refine xc_seq ?_); refine xc_block ?_)
 refine xc_loopJ (γ := Array Nat × List Int) (fun q => Seen es q.1 q.2) (fun q => [(0, .func (.yield l) #[] #[]), (5, .pointer (some ⟨r5, 0, none⟩))])
   (fun q => [(r5, true, hiter M0 c q.1), (B, false, cel [.map (some M0)] 89), (M0, false, hmapE es c)]) (fun q w => J q.2 w ∧ W.heap.size ≤ r5 ∧ W.heap.size ≤ w.heap.size) (fun q => s.length - q.2.length) (#[], []) ⟨List.nodup_nil, fun n => by simp⟩ ⟨rfl, rfl, trivial⟩
   (fun w1 hw1 => ⟨hw1.bok (by repeat (first | exact List.Sublist.refl _ | apply List.Sublist.cons_cons | apply List.Sublist.cons | exact List.nil_sublist _)), hJ _ _ _ none h0 (hw1.kx.grown (fun k q => q.elim)) (fun r e => by cases e), hw1.own (b := r5) (by repeat first | exact memH | apply memT | apply memA), hw1.kx.size⟩) ?_
 rintro ⟨seen, ys⟩ hseen wr hbok ⟨hJr, hr5, hszr⟩
 simp only at hseen hJr ⊢
 have hXW : ∀ seen b, XW [(r5, true, hiter M0 c seen), (B, false, cel [.map (some M0)] 89), (M0, false, hmapE es c)] b → r5 = b := by
   rintro seen b ⟨e, he, hwr, rfl⟩
   simp only [List.mem_cons, List.not_mem_nil, or_false] at he
   rcases he with rfl | rfl | rfl
   · rfl
   · cases hwr
   · cases hwr
 have hIr : wr.heap[r5]? = some (.mapIter (some M0) c seen c) := by
   obtain ⟨o, h5, h6⟩ := hbok.bl (r5, true, hiter M0 c seen) (by repeat first | exact memH | apply memT | apply memA)
   rw [h5]
   exact congrArg some h6
 have hwalk : ∀ (wx : World) (sn : Array Nat), wx.heap[r5]? = some (.mapIter (some M0) c sn c) → ∀ q, some r5 = some q → W.heap.size ≤ q ∧ ∃ o : Obj, wx.heap[q]? = some o ∧ o.isWalk = true := fun wx sn h q e => by
   cases e
   exact ⟨hr5, _, h, rfl⟩
 have hJn : ∀ (X : Nat → Prop) (w1 : World), (∀ b, X b → r5 = b) → Kx X wr w1 → J ys w1 := fun X w1 hX kx => hJ ys wr w1 (some r5) hJr (kx.grown (fun k q => congrArg some (hX k q))) (hwalk wr seen hIr)
 with_reducible ((repeat refine xc_seq ?_); refine xcR ?_)
 refine xo_next rfl rfl (by repeat first | exact memH | apply memT | apply memA) (by repeat first | exact memH | apply memT | apply memA) hE (fun seen' => Upd.head) rfl (fun hall => ?_) (fun e he hns => ?_)
 · refine xo_ext rfl rfl rfl rfl ?_
   with_reducible (refine xo_nil ?_; (repeat (first | refine xqT ?_ | refine xqB ?_ | refine xqS ?_)); (repeat refine xc_seq ?_))
   refine xc_condF rfl ?_
   with_reducible (refine xc_exit ?_; (repeat (first | refine xq_blockX ?_ | refine xq_thenE ?_ | refine xq_blockE rfl ?_ | refine xq_scopeE ?_)))
   exact xq_end0 rfl fun w2 hw2 => ⟨⟨_, rfl⟩, .inl ⟨ys, hseen.all hE hall, hJn _ _ (hXW seen) hw2.kx⟩⟩
 · obtain ⟨k, hk, hk1, hk2⟩ := hE.setV he
   have hst := hseen.step hE he hns hk1
   have hlen : ys.length < s.length := by
     have := hst.len hE
     simp at this
     omega
   rw [hk1, hk2]
   refine xo_ext rfl rfl rfl rfl ?_
   with_reducible (refine xo_nil ?_; (repeat (first | refine xqT ?_ | refine xqB ?_ | refine xqS ?_)); (repeat refine xc_seq ?_))
   refine xc_condT rfl ?_
   with_reducible (refine xc_skip ?_; (repeat (first | refine xqT ?_ | refine xqB ?_ | refine xqS ?_)); (repeat refine xc_seq ?_); refine xc_block ?_; (repeat refine xc_seq ?_); refine xcR ?_)
   refine xo_entry rfl rfl (by repeat first | exact memH | apply memT | apply memA) (by repeat first | exact memH | apply memT | apply memA) hE he rfl ?_
   rw [hk1, hk2]
   refine xo_ext rfl rfl rfl rfl ?_
   refine xo_asg rfl rfl rfl ?_
   with_reducible (refine xo_nil ?_; (repeat (first | refine xqT ?_ | refine xqB ?_ | refine xqS ?_)); (repeat refine xc_seq ?_); refine xcR ?_)
   refine xo_mv rfl rfl rfl ?_
   refine xo_mv rfl rfl rfl ?_
   refine xo_yield rfl rfl rfl rfl (fun w1 hw1 => ?_)
   obtain ⟨fn, tmps, assign, body, hy1, hy2⟩ := hY ys k w1 (hJn _ _ (hXW _) hw1.kx) hlen
   refine ⟨fn, tmps, assign, body, hy1, hy2.mono ?_⟩
   have hI1 : w1.heap[r5]? = some (.mapIter (some M0) c (seen.push e.born) c) := by
     obtain ⟨o, h5, h6⟩ := hw1.bl (r5, true, hiter M0 c (seen.push e.born)) (by repeat first | exact memH | apply memT | apply memA)
     rw [h5]
     exact congrArg some h6
   have hB1 := hw1.obj (b := B) (wr := false) (cs := [.map (some M0)]) (t := 89) (by repeat first | exact memH | apply memT | apply memA)
   have hM1 : w1.heap[M0]? = some (.map es c) := by
     obtain ⟨o, h5, h6⟩ := hw1.bl (M0, false, hmapE es c) (by repeat first | exact memH | apply memT | apply memA)
     rw [h5]
     exact congrArg some h6
   have hsz1 := hw1.kx.size
   clear hw1 hy1 hy2
   rintro e2 W3 (⟨rfl, hJ3, hk3⟩ | ⟨rfl, hJx3⟩)
   · have hI3 := hk3.2.2 r5 _ (by omega) hI1 rfl
     have hB3 := (hk3.1 B (hK B (.inl rfl))).trans hB1
     have hM3 := (hk3.1 M0 (hK M0 (.inr rfl))).trans hM1
     have n5B : r5 ≠ B := by omega
     have n5M : r5 ≠ M0 := by omega
     have hsz3 : W.heap.size ≤ W3.heap.size := by have := hk3.2.1; omega
     have hbok3 : BOK [(r5, true, hiter M0 c (seen.push e.born)), (B, false, cel [.map (some M0)] 89), (M0, false, hmapE es c)] W3 := by
       refine ⟨?_, by simp [n5B, n5M, nBM]⟩
       intro e he
       simp only [List.mem_cons, List.not_mem_nil, or_false] at he
       rcases he with rfl | rfl | rfl
       · exact ⟨_, hI3, rfl⟩
       · exact ⟨_, hB3, rfl⟩
       · exact ⟨_, hM3, rfl⟩
     refine ⟨.bool true, _, W3, _, rfl, hbok3.wok, ?_⟩
     refine xo_notOp rfl rfl rfl ?_
     with_reducible (refine xo_nil ?_; (repeat (first | refine xqT ?_ | refine xqB ?_ | refine xqS ?_)); (repeat refine xc_seq ?_))
     refine xc_condF rfl ?_
     with_reducible (refine xc_skip ?_; (repeat (first | refine xqT ?_ | refine xqB ?_ | refine xqS ?_)))
     refine xq_againJ _ _ _ _ _ _ (seen.push e.born, ys ++ [k]) hst (by simp only [List.length_append, List.length_cons, List.length_nil]; omega) ⟨rfl, rfl, trivial⟩
       (fun w1 hw1 => ⟨hw1.bok (by repeat (first | exact List.Sublist.refl _ | apply List.Sublist.cons_cons | apply List.Sublist.cons | exact List.nil_sublist _)), hJ _ W3 w1 (some r5) hJ3 (hw1.kx.grown (fun k q => congrArg some (hXW _ k q))) (hwalk W3 _ hI3), hr5, Nat.le_trans hsz3 hw1.kx.size⟩)
   · refine ⟨.bool false, [], W3, XNone, rfl, WOK.start _ _, ?_⟩
     refine xo_notOp rfl rfl rfl ?_
     with_reducible (refine xo_nil ?_; (repeat (first | refine xqT ?_ | refine xqB ?_ | refine xqS ?_)); (repeat refine xc_seq ?_))
     refine xc_condT rfl ?_
     with_reducible ((repeat refine xc_seq ?_); refine xc_ret ?_; (repeat (first | refine xq_thenR ?_ | refine xq_blockR ?_ | refine xq_scopeR ?_)))
     exact xq_ret0 rfl fun w2 hw2 => ⟨⟨_, rfl⟩, .inr ⟨_, trivial, hJx _ W3 w2 none hJx3 (hw2.kx.grown (fun k q => q.elim)) (fun r e => by cases e)⟩⟩
def sortF (xs : List Int) : List Int := xs.mergeSort fun x y => decide (x ≤ y)
theorem sortF_len (xs : List Int) : (sortF xs).length = xs.length := by simp [sortF]
theorem sort_enters : ∀ args w, (callFunc 76 args).run Tryz.prog w = .ok (.enter 76 args) w := enters_of Tryz.func76 (by kernel_rfl) rfl
theorem sort_calls (b cap : Nat) (xs : List Int) (w : World) (o : Obj) (h1 : w.heap[b]? = some o) (h2 : orow 3 1 xs.length cap (xs.map (.int .i64)) o) (hl : xs.length ≤ 1000000) :
   Calls Tryz.prog 76 #[.slice (some ⟨b, 0, none⟩) xs.length cap] w fun e w' => e = .returned (.tuple #[]) ∧ Kx (fun k => k = b) w w' ∧ ∃ o', w'.heap[b]? = some o' ∧ orow 3 1 xs.length cap ((sortF xs).map (.int .i64)) o' := by
 obtain ⟨cur, rfl, h5, h6, h7, h8⟩ := h2
 rw [Nat.mul_one] at h7 h8
 have hlt : b < w.heap.size := (Array.getElem?_eq_some_iff.1 h1).1
 have hc := Any.slices_Sort_int lays189 b 0 cap xs w (holds_of_blockI h1 h8) hlt (by omega)
 refine Calls.mono (show Calls Tryz.prog 76 _ _ _ from hc) ?_
 rintro e w' ⟨rfl, n, os, rfl⟩
 have hg := grownBy_sortedI (w := w) (g := b) (n := n) (os := os) (xs.mergeSort fun x y => decide (x ≤ y)).toArray
 refine ⟨rfl, ⟨hg.os, hg.tape, hg.output, hg.size, fun k hk hne => hg.block k hk (fun q => hne (Option.some.inj q))⟩, _, heap_sortedI _ h1, _, rfl, h5, h6, ?_, ?_⟩
 · rw [Nat.mul_one, ← h7]
   simp [Sort.putCells]
 · rw [Nat.mul_one]
   have := take_putCellsI cur (sortF xs) (by rw [sortF_len]; omega)
   rw [sortF_len] at this
   exact this
theorem sortF_perm {l l' : List Int} (h : l.Perm l') : sortF l = sortF l' := by
 have tr : ∀ a b c : Int, decide (a ≤ b) = true → decide (b ≤ c) = true → decide (a ≤ c) = true := fun a b c h1 h2 => by simp at *; omega
 have tot : ∀ a b : Int, (decide (a ≤ b) || decide (b ≤ a)) = true := fun a b => by simp; omega
 refine List.Perm.eq_of_pairwise (le := fun a b => decide (a ≤ b) = true) (fun a b _ _ h1 h2 => ?_) (List.pairwise_mergeSort tr tot l) (List.pairwise_mergeSort tr tot l') (((List.mergeSort_perm l _).trans h).trans (List.mergeSort_perm l' _).symm)
 simp only [decide_eq_true_eq] at h1 h2
 omega
theorem keys_enters : ∀ args w, (callFunc 56 args).run Tryz.prog w = .ok (.enter 56 args) w := enters_of Tryz.func56 (by kernel_rfl) rfl
theorem keys_calls (M0 : Nat) (w : World) :
   Calls Tryz.prog 56 #[.map (some M0)] w fun e w' => ∃ B, e = .returned (.func (.func 77) #[] #[.pointer (some ⟨B, 0, none⟩)]) ∧ w.heap.size ≤ B ∧ w'.heap[B]? = some (.cells #[.map (some M0)] 89 (0, 0)) ∧ Below w.heap.size w w' := by
 refine x_calls (X := XNone) Tryz.func56 rfl rfl rfl ?_
 with_reducible ((repeat refine xc_seq ?_); refine xcR ?_)
 refine xo_box rfl rfl rfl rfl (fun b1 => ?_)
 refine xo_asg rfl rfl rfl ?_
 with_reducible (refine xo_nil ?_; (repeat (first | refine xqT ?_ | refine xqB ?_ | refine xqS ?_)); (repeat refine xc_seq ?_); refine xcR ?_)
 refine xo_mkf rfl rfl rfl rfl ?_
 refine xo_asg rfl rfl rfl ?_
 with_reducible (refine xo_nil ?_; (repeat (first | refine xqT ?_ | refine xqB ?_ | refine xqS ?_)); (repeat refine xc_seq ?_); refine xc_ret ?_; (repeat (first | refine xq_thenR ?_ | refine xq_blockR ?_ | refine xq_scopeR ?_)))
 exact xq_ret1 rfl rfl fun w' hw => ⟨b1, rfl, hw.own (by repeat first | exact memH | apply memT | apply memA), hw.obj (wr := true) (cs := [.map (some M0)]) (by repeat first | exact memH | apply memT | apply memA), hw.kx.below⟩
end Go.Proofs.YtommeljlfkmpjaaGreatDoor
namespace Go.Proofs.YtommeljlfkmpjaaGreatDoor
open Go.Shelf Go.RowKit
set_option maxRecDepth 100000
def ren125 : Ren := ⟨fun n => bif Nat.beq n 125 then 81 else bif Nat.beq n 128 then 111 else bif Nat.beq n 129 then 112 else n, fun n => bif Nat.beq n 3 then 3 else bif Nat.beq n 4 then 4 else bif Nat.beq n 5 then 5 else bif Nat.beq n 9 then 9 else bif Nat.beq n 46 then 136 else bif Nat.beq n 51 then 102 else bif Nat.beq n 53 then 158 else n, fun n => n⟩
theorem lays125 : Lays.n125 Tryz.prog ren125 where
 mixed := T_.mixed
 f125 := by kernel_rfl
 f128 := by kernel_rfl
 f129 := by kernel_rfl
 t3 := by kernel_rfl
 a3 := fun w => by kernel_rfl
 z3 := fun w => by kernel_rfl
 v3 := fun w => by kernel_rfl
 t4 := by kernel_rfl
 a4 := fun w => by kernel_rfl
 z4 := fun w => by kernel_rfl
 v4 := fun w => by kernel_rfl
 t5 := by kernel_rfl
 a5 := fun w => by kernel_rfl
 z5 := fun w => by kernel_rfl
 v5 := fun w => by kernel_rfl
 t9 := by kernel_rfl
 a9 := fun w => by kernel_rfl
 z9 := fun w => by kernel_rfl
 v9 := fun w => by kernel_rfl
 t46 := by kernel_rfl
 a46 := fun w => by kernel_rfl
 z46 := fun w => by kernel_rfl
 v46 := fun w => by kernel_rfl
 t51 := by kernel_rfl
 a51 := fun w => by kernel_rfl
 z51 := fun w => by kernel_rfl
 v51 := fun w => by kernel_rfl
 t53 := by kernel_rfl
 a53 := fun w => by kernel_rfl
 z53 := fun w => by kernel_rfl
 v53 := fun w => by kernel_rfl
end Go.Proofs.YtommeljlfkmpjaaGreatDoor
namespace Go.Proofs.YtommeljlfkmpjaaGreatDoor
open Go.RowKit
set_option linter.unusedVariables false
set_option linter.unusedSimpArgs false
theorem insertion_nil (w : World) : Calls Tryz.prog 114 #[.slice none 0 0, .int .i64 0, .int .i64 0] w fun e w' => e = .returned (.tuple #[]) ∧ Below w.heap.size w w' := by
 refine x_calls (X := XNone) Tryz.func114 rfl rfl rfl ?_
 with_reducible ((repeat refine xc_seq ?_); refine xcR ?_)
 refine xo_mv rfl rfl rfl ?_
 refine xo_add rfl rfl rfl (by omega) rfl ?_
 refine xo_asg rfl rfl rfl ?_
 with_reducible (refine xo_nil ?_; (repeat (first | refine xqT ?_ | refine xqB ?_ | refine xqS ?_)); (repeat refine xc_seq ?_); refine xc_block ?_)
 refine xc_loop (γ := Unit) (fun _ => True) (fun _ => [(2, .int .i64 0), (6, .int .i64 1)]) (fun _ => []) (fun _ => 0) () trivial ⟨rfl, rfl, trivial⟩ (List.Sublist.refl _) ?_
 rintro _ _
 with_reducible ((repeat refine xc_seq ?_); refine xcR ?_)
 refine xo_mv rfl rfl rfl ?_
 refine xo_mv rfl rfl rfl ?_
 refine xo_lss rfl rfl rfl rfl ?_
 with_reducible (refine xo_nil ?_; (repeat (first | refine xqT ?_ | refine xqB ?_ | refine xqS ?_)); (repeat refine xc_seq ?_))
 refine xc_condF rfl ?_
 with_reducible (refine xc_exit ?_; (repeat (first | refine xq_blockX ?_ | refine xq_thenE ?_ | refine xq_blockE rfl ?_ | refine xq_scopeE ?_)))
 exact xq_end0 rfl fun w2 hw2 => ⟨rfl, hw2.kx.below⟩
theorem pdq_nil (x : Int) (w : World) : Calls Tryz.prog 101 #[.slice none 0 0, .int .i64 0, .int .i64 0, .int .i64 x] w fun e w' => e = .returned (.tuple #[]) ∧ Below w.heap.size w w' := by
 have eg := enters_of Tryz.func114 (by kernel_rfl) rfl
 refine x_calls (X := XNone) Tryz.func101 rfl rfl rfl ?_
 with_reducible ((repeat refine xc_seq ?_); refine xcR ?_)
 refine xo_asg rfl rfl rfl ?_
 with_reducible (refine xo_nil ?_; (repeat (first | refine xqT ?_ | refine xqB ?_ | refine xqS ?_)); (repeat refine xc_seq ?_); refine xcR ?_)
 refine xo_asg rfl rfl rfl ?_
 with_reducible (refine xo_nil ?_; (repeat (first | refine xqT ?_ | refine xqB ?_ | refine xqS ?_)); (repeat refine xc_seq ?_); refine xc_block ?_)
 refine xc_loop (γ := Unit) (fun _ => True) (fun _ => [(0, .slice none 0 0), (1, .int .i64 0), (2, .int .i64 0)]) (fun _ => []) (fun _ => 0) () trivial ⟨rfl, rfl, rfl, trivial⟩ (List.Sublist.refl _) ?_
 rintro _ _
 with_reducible ((repeat refine xc_seq ?_); refine xc_block ?_; (repeat refine xc_seq ?_); refine xcR ?_)
 refine xo_mv rfl rfl rfl ?_
 refine xo_mv rfl rfl rfl ?_
 refine xo_sub rfl rfl rfl (by omega) rfl ?_
 refine xo_asg rfl rfl rfl ?_
 with_reducible (refine xo_nil ?_; (repeat (first | refine xqT ?_ | refine xqB ?_ | refine xqS ?_)); (repeat refine xc_seq ?_); refine xcR ?_)
 refine xo_mv rfl rfl rfl ?_
 refine xo_leq rfl rfl rfl rfl ?_
 with_reducible (refine xo_nil ?_; (repeat (first | refine xqT ?_ | refine xqB ?_ | refine xqS ?_)); (repeat refine xc_seq ?_))
 refine xc_condT rfl ?_
 with_reducible ((repeat refine xc_seq ?_); refine xcR ?_)
 refine xo_mv rfl rfl rfl ?_
 refine xo_mv rfl rfl rfl ?_
 refine xo_mv rfl rfl rfl ?_
 refine xo_callB (fs := []) (cs := []) rfl rfl rfl eg rfl (fun w1 hw1 => insertion_nil w1) ?_
 with_reducible (refine xo_nil ?_; (repeat (first | refine xqT ?_ | refine xqB ?_ | refine xqS ?_)); (repeat refine xc_seq ?_); refine xc_ret ?_; (repeat (first | refine xq_thenR ?_ | refine xq_blockR ?_ | refine xq_scopeR ?_)))
 exact xq_ret0 rfl fun w2 hw2 => ⟨rfl, hw2.kx.below⟩
theorem sort_nil (w : World) : Calls Tryz.prog 76 #[.slice none 0 0] w fun e w' => e = .returned (.tuple #[]) ∧ Below w.heap.size w w' := by
 have eg := enters_of Tryz.func101 (by kernel_rfl) rfl
 have eg2 := enters_of Tryz.func81 (by kernel_rfl) rfl
 refine x_calls (X := XNone) Tryz.func76 rfl rfl rfl ?_
 with_reducible ((repeat refine xc_seq ?_); refine xcR ?_)
 refine xo_mv rfl rfl rfl ?_
 refine xo_len T_ rfl rfl rfl rfl ?_
 refine xo_asg rfl rfl rfl ?_
 with_reducible (refine xo_nil ?_; (repeat (first | refine xqT ?_ | refine xqB ?_ | refine xqS ?_)); (repeat refine xc_seq ?_); refine xcR ?_)
 refine xo_mv rfl rfl rfl ?_
 refine xo_mv rfl rfl rfl ?_
 refine xo_mv rfl rfl rfl ?_
 refine xo_conv T_ rfl rfl rfl rfl (by decide) rfl ?_
 refine xo_callB (fs := []) (cs := []) rfl rfl rfl eg2 rfl (fun w1 hw1 => (Any.bits_Len lays125 0 w1 (by omega) (by omega)).mono (fun e w' h => ⟨h.1, by rw [h.2]; exact Below.refl _ _⟩)) ?_
 refine xo_callB (fs := []) (cs := []) rfl rfl rfl eg rfl (fun w1 hw1 => pdq_nil _ w1) ?_
 with_reducible (refine xo_nil ?_; (repeat (first | refine xqT ?_ | refine xqB ?_ | refine xqS ?_)))
 exact xq_end0 rfl fun w2 hw2 => ⟨rfl, hw2.kx.below⟩
theorem collectS_enters : ∀ args w, (callFunc 75 args).run Tryz.prog w = .ok (.enter 75 args) w := enters_of Tryz.func75 (by kernel_rfl) rfl
theorem sorted_enters : ∀ args w, (callFunc 55 args).run Tryz.prog w = .ok (.enter 55 args) w := enters_of Tryz.func55 (by kernel_rfl) rfl
theorem sorted_calls (g : Nat) (cs : List Value) (eg : ∀ args w, (callFunc g args).run Tryz.prog w = .ok (.enter g args) w) (need : Nat → Prop) (s : List Int) (M : Nat) (w : World) (hit : IterS Tryz.prog g cs w need (fun ys => ys.Perm s) M) (hneed : ∀ k, need k → k < w.heap.size) (hlen : M ≤ 1000000) (hs : s.length ≤ 1000000) :
   Calls Tryz.prog 55 #[.func (.func g) #[] cs.toArray] w fun e w' => ∃ r : RowR, e = .returned (valR r (sortF s).length) ∧ RowAt 3 w.heap.size w' r (sortF s) ∧ Below w.heap.size w w' := by
 refine x_calls (X := XNone) Tryz.func55 rfl rfl rfl ?_
 with_reducible ((repeat refine xc_seq ?_); refine xcR ?_)
 refine xo_asg rfl rfl rfl ?_
 with_reducible (refine xo_nil ?_; (repeat (first | refine xqT ?_ | refine xqB ?_ | refine xqS ?_)); (repeat refine xc_seq ?_); refine xcR ?_)
 refine xo_mv rfl rfl rfl ?_
 refine xo_call (fs := []) (cs := []) rfl rfl rfl collectS_enters rfl (fun w1 hw1 => (collectS_calls g cs eg need _ M w1 (fun w2 h1 h2 => hit w2 (Nat.le_trans hw1.kx.size h1) (fun k hk => (h2 k hk).trans (hw1.kx.below.block k (hneed k hk)))) (fun k hk => Nat.lt_of_lt_of_le (hneed k hk) hw1.kx.size) hlen).mono ?_)
 rintro e w2 ⟨xs, r, hS, rfl, hrow, hb⟩
 have h0 := hrow.1
 refine ⟨_, _, rfl, hw1.row hb hrow, ?_⟩
 clear hrow hb hw1
 have hxl : xs.length = s.length := hS.length_eq
 have hsx : sortF s = sortF xs := (sortF_perm hS).symm
 refine xo_asg rfl rfl rfl ?_
 with_reducible (refine xo_nil ?_; (repeat (first | refine xqT ?_ | refine xqB ?_ | refine xqS ?_)))
 rcases r with _ | ⟨b, cap⟩
 · obtain rfl := h0 rfl
   with_reducible ((repeat refine xc_seq ?_); refine xcR ?_)
   refine xo_mv rfl rfl rfl ?_
   refine xo_callB (fs := []) (cs := []) rfl rfl rfl sort_enters rfl (fun w1 hw1 => sort_nil w1) ?_
   with_reducible (refine xo_nil ?_; (repeat (first | refine xqT ?_ | refine xqB ?_ | refine xqS ?_)); (repeat refine xc_seq ?_); refine xcR ?_)
   refine xo_mv rfl rfl rfl ?_
   refine xo_asg rfl rfl rfl ?_
   with_reducible (refine xo_nil ?_; (repeat (first | refine xqT ?_ | refine xqB ?_ | refine xqS ?_)); (repeat refine xc_seq ?_); refine xc_ret ?_; (repeat (first | refine xq_thenR ?_ | refine xq_blockR ?_ | refine xq_scopeR ?_)))
   refine xq_ret1 rfl rfl fun w' hw => ⟨none, rfl, ?_, hw.kx.below⟩
   rw [hsx]
   exact ⟨fun _ => by simp [sortF], fun p hp => by cases hp⟩
 · with_reducible repeat refine xc_seq ?_
   with_reducible refine xcR ?_
   refine xo_mv rfl rfl rfl ?_
   refine xo_call (fs := []) (cs := []) rfl rfl rfl sort_enters rfl (fun w1 hw1 => ?_)
   obtain ⟨o1, ho1, ho2⟩ := hw1.bl (b, true, orow 3 1 xs.length cap (xs.map (.int .i64))) (List.Mem.head _)
   refine (sort_calls b cap xs w1 o1 ho1 ho2 (by omega)).mono ?_
   rintro e w3 ⟨rfl, hk3, o3, ho3, ho4⟩
   refine ⟨_, _, rfl, hw1.updK (φ' := orow 3 1 xs.length cap ((sortF xs).map (.int .i64))) Upd.head hk3 ho3 ho4, ?_⟩
   clear ho3 ho4 hk3 ho1 ho2 hw1
   with_reducible (refine xo_nil ?_; (repeat (first | refine xqT ?_ | refine xqB ?_ | refine xqS ?_)); (repeat refine xc_seq ?_); refine xcR ?_)
   refine xo_mv rfl rfl rfl ?_
   refine xo_asg rfl rfl rfl ?_
   with_reducible (refine xo_nil ?_; (repeat (first | refine xqT ?_ | refine xqB ?_ | refine xqS ?_)); (repeat refine xc_seq ?_); refine xc_ret ?_; (repeat (first | refine xq_thenR ?_ | refine xq_blockR ?_ | refine xq_scopeR ?_)))
   refine xq_ret1 rfl rfl fun w' hw => ⟨some (b, cap), by rw [hsx, sortF_len], ?_, hw.kx.below⟩
   rw [hsx]
   refine RowAt.of (η := []) ?_ (fun h => by cases h)
   rw [sortF_len]
   exact hw.sub (List.Sublist.cons_cons _ (List.nil_sublist _))
end Go.Proofs.YtommeljlfkmpjaaGreatDoor
namespace Go.Proofs.YtommeljlfkmpjaaGreatDoor
open Go.RowKit Go.Proofs.YtommeljlfkmpjaaGreatDoorW.PrintWords
set_option linter.unusedVariables false
set_option linter.unusedSimpArgs false
/-! ### a site's blocks -/
def dfl (e : Nat × Bool × HP) : Nat × Bool × HP := (e.1, false, e.2.2)
theorem WOK.deflag {w0 : World} {X : Nat → Prop} {ζ η : Hp} {w : World} (h : WOK w0 X (ζ ++ η) w) : WOK w0 X (ζ.map dfl ++ η) w := by
 refine ⟨h.kx, fun e he => ?_, ?_, fun e he hw => ?_⟩
 · rcases List.mem_append.1 he with he | he
   · obtain ⟨q, hq, rfl⟩ := List.mem_map.1 he
     exact h.bl q (List.mem_append_left _ hq)
   · exact h.bl e (List.mem_append_right _ he)
 · have := h.nd
   rw [List.map_append] at this ⊢
   rw [List.map_map]
   exact this
 · rcases List.mem_append.1 he with he | he
   · obtain ⟨q, _, rfl⟩ := List.mem_map.1 he
     cases hw
   · exact h.ow e (List.mem_append_right _ he) hw
theorem siteH_own {bs : Nat} {sv : List Value} {R : Nat} {gs : List GatT} {pre : List DelT} {rf rw_ : RowR} : ∀ e ∈ siteH bs sv R gs pre rf rw_, e.2.1 = true ∧ ∀ o, e.2.2 o → o.isCells = true := by
 intro e he
 refine openH_own (b1 := 0) (b5 := 0) (bs := bs) (sv := sv) (R := R) (gs := gs) (pre := pre) (rf := rf) (rw_ := rw_) e ?_
 unfold siteH at he
 unfold openH
 rcases List.mem_append.1 he with he | he
 · exact List.mem_append_left _ he
 rcases List.mem_append.1 he with he | he
 · exact List.mem_append_right _ (List.mem_append_left _ he)
 refine List.mem_append_right _ (List.mem_append_right _ (List.mem_cons_of_mem _ ?_))
 rcases List.mem_cons.1 he with rfl | he
 · exact List.mem_cons_self
 · exact List.mem_cons_of_mem _ (List.mem_cons_of_mem _ he)
/-- a site's blocks lie in the world -/
def InW (ζ : Hp) (w : World) : Prop := ∀ e ∈ ζ, ∃ o, w.heap[e.1]? = some o ∧ e.2.2 o
theorem WOK.inW {w0 : World} {X : Nat → Prop} {ζ η : Hp} {w : World} (h : WOK w0 X η w) (hs : ∀ e ∈ ζ, dfl e ∈ η) : InW ζ w := fun e he => h.bl (dfl e) (hs e he)
theorem flatM_at (R : Nat) (gs : List GatT) (pre : List DelT) (k j : Nat) {v : Value} (hk : k < pre.length) (hj : (matV (farM R gs ((pre.map (·.2)).getD k [])))[j]? = some v) : (flatM R gs pre)[k * 36 + j]? = some v := by
 have hj36 : j < 36 := by have := (List.getElem?_eq_some_iff.1 hj).1; rwa [matV_len] at this
 unfold flatM
 rw [flat_at 36 _ k j (by intro c hc; obtain ⟨x, _, rfl⟩ := List.mem_map.1 hc; exact matV_len _) hj36, List.getElem?_map, List.getElem?_eq_getElem hk]
 have : (pre.map (·.2)).getD k [] = pre[k].2 := by simp [List.getD_eq_getElem?_getD, List.getElem?_eq_getElem hk]
 rw [this] at hj
 simpa using hj
theorem siteR_of {w : World} {bs : Nat} {sv : List Value} {R : Nat} {gs : List GatT} {pre : List DelT} {fb fc : Nat} {rw_ : RowR} (h : InW (siteH bs sv R gs pre (some (fb, fc)) rw_) w) (hp : pre.map (·.2) = allD gs) : SiteR w bs fb fc sv (valR rw_ pre.length) R gs := by
 have hl : pre.length = (allD gs).length := by rw [← hp, List.length_map]
 have h1 := h (bs, true, cel (siteV sv (valR (some (fb, fc)) pre.length) (valR rw_ pre.length)) 101) (by unfold siteH; exact List.mem_append_right _ (List.mem_append_right _ (List.Mem.head _)))
 have h2 := h (fb, true, orow 123 36 pre.length fc (flatM R gs pre)) (by unfold siteH; exact List.mem_append_left _ (List.Mem.head _))
 obtain ⟨o1, ho1, hc1⟩ := h1
 obtain ⟨o2, ho2, cur, rfl, h5, h6, h7, h8⟩ := h2
 rw [show o1 = _ from hc1] at ho1
 refine ⟨ro_of fun j v hj => ?_, fun k hk => ro_of fun j v hj => ?_⟩
 · rw [Addr.add_lit, Nat.zero_add, cell_of_row w bs j _ _ _ ho1]
   rw [← hl] at hj
   simpa [valR] using hj
 · have hkp : k < pre.length := by omega
   have hx := flatM_at R gs pre k j hkp (by rw [hp]; exact hj)
   rw [add_add, Addr.add_lit, Nat.zero_add, cell_of_row w fb _ _ _ _ ho2, ← Array.getElem?_toList]
   rw [← h8, List.getElem?_take] at hx
   have h36 : (k : Int).toNat * szN 36 + j = k * 36 + j := by
     have q : szN 36 = 36 := rfl
     rw [q]
     simp
   rw [h36]
   split at hx
   · exact hx
   · cases hx
section
variable (R E : Int) (A B : Option Addr) (c c2 : Nat) (gs : List GatT) (ms : List MarT) (w : World) (hA : Kd.C gatK w A gs.length gs) (hB : Kd.C marK w B ms.length ms) (hk : BytesK ms)
include hA hB hk
theorem open_no (h : sceneF R E gs ms = false) : Calls Tryz.prog 45 #[.agg (scnV R A gs.length c E B ms.length c2).toArray] w fun e w' => e = .returned (.tuple #[.pointer none, .int .i64 90]) ∧ Below w.heap.size w w' := by
 refine (open_calls R E A B c c2 gs ms w hA hB hk).mono ?_
 rintro e w' (⟨_, h2, h3⟩ | ⟨h1, _⟩)
 · exact ⟨h2, h3⟩
 · rw [h] at h1; cases h1
theorem open_yes (h : sceneF R E gs ms = true) : Calls Tryz.prog 45 #[.agg (scnV R A gs.length c E B ms.length c2).toArray] w fun e w' => ∃ bs pre fb fc wb wc, e = .returned (.tuple #[.pointer (some ⟨bs, 0, none⟩), .int .i64 0]) ∧ pre.map (·.2) = allD gs ∧ WOK w XNone (siteH bs (scnV R A gs.length c E B ms.length c2) R.toNat gs pre (some (fb, fc)) (some (wb, wc))) w' := by
 refine (open_calls R E A B c c2 gs ms w hA hB hk).mono ?_
 rintro e w' (⟨h1, _⟩ | ⟨_, bs, pre, rf, rw_, h2, h3, h4, h5, h6⟩)
 · rw [h] at h1; cases h1
 · obtain ⟨⟨fb, fc⟩, rfl⟩ := Option.ne_none_iff_exists'.1 h4
   obtain ⟨⟨wb, wc⟩, rfl⟩ := Option.ne_none_iff_exists'.1 h5
   exact ⟨bs, pre, fb, fc, wb, wc, h2, h3, h6⟩
end
theorem nat_of {R : Int} (h : 1 ≤ R ∧ R ≤ 6) : ∃ n : Nat, R = n ∧ 1 ≤ n ∧ n ≤ 6 := ⟨R.toNat, by omega, by omega, by omega⟩
/-- the marks of a scene that is right -/
theorem marks_ok {R : Int} (hR : 1 ≤ R ∧ R ≤ 6) : ∀ {ms : List MarT} {last : Int}, marksF R last ms = true → ∀ m ∈ ms, MarkOK m
 | [], _, _, m, hm => by cases hm
 | x :: ms, last, h, m, hm => by
   simp only [marksF, Bool.and_eq_true] at h
   obtain ⟨⟨⟨⟨h1, h2⟩, h3⟩, h4⟩, h5⟩ := h
   rcases List.mem_cons.1 hm with rfl | hm
   · have q2 := inF_iff.1 h2
     have q3 := inF_iff.1 h3
     have hq : (0 ≤ m.f3 ∧ m.f3 ≤ 5) ∧ (0 ≤ m.f4.f0 ∧ m.f4.f0 ≤ 600) ∧ (0 ≤ m.f4.f1 ∧ m.f4.f1 ≤ 600) ∧ (0 ≤ m.f5 ∧ m.f5 ≤ 600) := by
       unfold kindF at h4
       split at h4
       · simp only [timedF, inF, Bool.and_eq_true, decide_eq_true_eq] at h4
         omega
       · split at h4
         · simp only [lastingF, noneF, inF, Bool.and_eq_true, decide_eq_true_eq] at h4
           omega
         · simp only [beforeF, noneF, inF, Bool.and_eq_true, decide_eq_true_eq, Bool.not_eq_true', decide_eq_false_iff_not] at h4
           omega
     exact ⟨q3, by omega, hq.1, hq.2.1, hq.2.2.1, hq.2.2.2⟩
   · exact marks_ok hR h5 m hm
/-! ### roomed -/
def roomOK (R room : Int) : Bool := inF 0 (R - 1) room
section
variable (R E : Int) (A B : Option Addr) (c c2 : Nat) (gs : List GatT) (ms : List MarT) (room : Int) (w : World) (hA : Kd.C gatK w A gs.length gs) (hB : Kd.C marK w B ms.length ms) (hk : BytesK ms)
include hA hB hk
set_option maxHeartbeats 4000000 in
theorem roomed_no (h : sceneF R E gs ms = false) : Calls Tryz.prog 35 #[.agg (scnV R A gs.length c E B ms.length c2).toArray, .int .i64 room] w fun e w' => e = .returned (.tuple #[.pointer none, .int .i64 90]) ∧ Below w.heap.size w w' := by
 refine x_calls (X := XNone) Tryz.func35 rfl rfl rfl ?_
 with_reducible ((repeat refine xc_seq ?_); refine xcR ?_)
 refine xo_box rfl rfl rfl rfl (fun b2 => ?_)
 refine xo_asg rfl rfl rfl ?_
 refine xo_asg rfl rfl rfl ?_
 with_reducible (refine xo_nil ?_; (repeat (first | refine xqT ?_ | refine xqB ?_ | refine xqS ?_)); (repeat refine xc_seq ?_); refine xcR ?_)
 refine xo_loadN T_ rfl rfl rfl (by repeat first | exact memH | apply memT | apply memA) rfl rfl ?_
 refine xo_callB (fs := []) (cs := []) rfl rfl rfl open_enters rfl (fun w1 hw1 => open_no R E A B c c2 gs ms w1 (Kd.C_below hA hw1.kx.below) (Kd.C_below hB hw1.kx.below) hk h) ?_
 refine xo_mv rfl rfl rfl ?_
 refine xo_ext rfl rfl rfl rfl ?_
 refine xo_ext rfl rfl rfl rfl ?_
 refine xo_asg rfl rfl rfl ?_
 refine xo_asg rfl rfl rfl ?_
 with_reducible (refine xo_nil ?_; (repeat (first | refine xqT ?_ | refine xqB ?_ | refine xqS ?_)); (repeat refine xc_seq ?_); refine xcR ?_)
 refine xo_mv rfl rfl rfl ?_
 refine xo_neq rfl rfl rfl rfl ?_
 with_reducible (refine xo_nil ?_; (repeat (first | refine xqT ?_ | refine xqB ?_ | refine xqS ?_)); (repeat refine xc_seq ?_))
 refine xc_condT rfl ?_
 with_reducible ((repeat refine xc_seq ?_); refine xcR ?_)
 refine xo_mv rfl rfl rfl ?_
 refine xo_asg rfl rfl rfl ?_
 refine xo_asg rfl rfl rfl ?_
 with_reducible (refine xo_nil ?_; (repeat (first | refine xqT ?_ | refine xqB ?_ | refine xqS ?_)); (repeat refine xc_seq ?_); refine xc_ret ?_; (repeat (first | refine xq_thenR ?_ | refine xq_blockR ?_ | refine xq_scopeR ?_)))
 exact xq_ret2 rfl rfl rfl fun w' hw => ⟨rfl, hw.kx.below⟩
set_option maxHeartbeats 4000000 in
theorem roomed_arg (h : sceneF R E gs ms = true) (hr : roomOK R room = false) : Calls Tryz.prog 35 #[.agg (scnV R A gs.length c E B ms.length c2).toArray, .int .i64 room] w fun e w' => e = .returned (.tuple #[.pointer none, .int .i64 2]) ∧ Below w.heap.size w w' := by
 obtain ⟨hR6, _⟩ := sceneF_ok h
 refine x_calls (X := XNone) Tryz.func35 rfl rfl rfl ?_
 with_reducible ((repeat refine xc_seq ?_); refine xcR ?_)
 refine xo_box rfl rfl rfl rfl (fun b2 => ?_)
 refine xo_asg rfl rfl rfl ?_
 refine xo_asg rfl rfl rfl ?_
 with_reducible (refine xo_nil ?_; (repeat (first | refine xqT ?_ | refine xqB ?_ | refine xqS ?_)); (repeat refine xc_seq ?_); refine xcR ?_)
 refine xo_loadN T_ rfl rfl rfl (by repeat first | exact memH | apply memT | apply memA) rfl rfl ?_
 refine xo_call (fs := []) (cs := []) rfl rfl rfl open_enters rfl (fun w1 hw1 => (open_yes R E A B c c2 gs ms w1 (Kd.C_below hA hw1.kx.below) (Kd.C_below hB hw1.kx.below) hk h).mono ?_)
 rintro e w2 ⟨bs, pre, fb, fc, wb, wc, rfl, hp, hz⟩
 refine ⟨_, _, rfl, hw1.below hz.kx.below, ?_⟩
 clear hz hw1
 refine xo_mv rfl rfl rfl ?_
 refine xo_ext rfl rfl rfl rfl ?_
 refine xo_ext rfl rfl rfl rfl ?_
 refine xo_asg rfl rfl rfl ?_
 refine xo_asg rfl rfl rfl ?_
 with_reducible (refine xo_nil ?_; (repeat (first | refine xqT ?_ | refine xqB ?_ | refine xqS ?_)); (repeat refine xc_seq ?_); refine xcR ?_)
 refine xo_mv rfl rfl rfl ?_
 refine xo_neq rfl rfl rfl rfl ?_
 with_reducible (refine xo_nil ?_; (repeat (first | refine xqT ?_ | refine xqB ?_ | refine xqS ?_)); (repeat refine xc_seq ?_))
 refine xc_condF rfl ?_
 with_reducible (refine xc_skip ?_; (repeat (first | refine xqT ?_ | refine xqB ?_ | refine xqS ?_)); (repeat refine xc_seq ?_); refine xcR ?_)
 refine xo_fa T_ rfl rfl rfl rfl rfl ?_
 refine xo_load0 T_ rfl rfl rfl (by repeat first | exact memH | apply memT | apply memA) rfl rfl ?_
 refine xo_sub rfl rfl rfl (by omega) rfl ?_
 refine xo_mv rfl rfl rfl ?_
 refine xo_bs1 T_ rfl rfl rfl rfl rfl rfl rfl rfl (fun b20 => ?_)
 refine xo_callB (fs := []) (cs := []) rfl rfl rfl in_enters rfl (fun w1 hw1 => in_calls hw1 0 (R - 1) room (by repeat first | exact memH | apply memT | apply memA)) ?_
 refine xo_as (i := 21) rfl (congrArg Value.bool hr) ?_
 refine xo_notOp rfl rfl rfl ?_
 with_reducible (refine xo_nil ?_; (repeat (first | refine xqT ?_ | refine xqB ?_ | refine xqS ?_)); (repeat refine xc_seq ?_))
 refine xc_condT rfl ?_
 with_reducible ((repeat refine xc_seq ?_); refine xcR ?_)
 refine xo_asg rfl rfl rfl ?_
 refine xo_asg rfl rfl rfl ?_
 with_reducible (refine xo_nil ?_; (repeat (first | refine xqT ?_ | refine xqB ?_ | refine xqS ?_)); (repeat refine xc_seq ?_); refine xc_ret ?_; (repeat (first | refine xq_thenR ?_ | refine xq_blockR ?_ | refine xq_scopeR ?_)))
 exact xq_ret2 rfl rfl rfl fun w' hw => ⟨rfl, hw.kx.below⟩
set_option maxHeartbeats 4000000 in
theorem roomed_yes (h : sceneF R E gs ms = true) (hr : roomOK R room = true) : Calls Tryz.prog 35 #[.agg (scnV R A gs.length c E B ms.length c2).toArray, .int .i64 room] w fun e w' => ∃ bs pre fb fc wb wc, e = .returned (.tuple #[.pointer (some ⟨bs, 0, none⟩), .int .i64 0]) ∧ pre.map (·.2) = allD gs ∧ WOK w XNone (siteH bs (scnV R A gs.length c E B ms.length c2) R.toNat gs pre (some (fb, fc)) (some (wb, wc))) w' := by
 obtain ⟨hR6, _⟩ := sceneF_ok h
 refine x_calls (X := XNone) Tryz.func35 rfl rfl rfl ?_
 with_reducible ((repeat refine xc_seq ?_); refine xcR ?_)
 refine xo_box rfl rfl rfl rfl (fun b2 => ?_)
 refine xo_asg rfl rfl rfl ?_
 refine xo_asg rfl rfl rfl ?_
 with_reducible (refine xo_nil ?_; (repeat (first | refine xqT ?_ | refine xqB ?_ | refine xqS ?_)); (repeat refine xc_seq ?_); refine xcR ?_)
 refine xo_loadN T_ rfl rfl rfl (by repeat first | exact memH | apply memT | apply memA) rfl rfl ?_
 refine xo_call (fs := []) (cs := []) rfl rfl rfl open_enters rfl (fun w1 hw1 => (open_yes R E A B c c2 gs ms w1 (Kd.C_below hA hw1.kx.below) (Kd.C_below hB hw1.kx.below) hk h).mono ?_)
 rintro e w2 ⟨bs, pre, fb, fc, wb, wc, rfl, hp, hz⟩
 refine ⟨_, _, rfl, hw1.join hz (fun e he => (siteH_own e he).1), ?_⟩
 clear hz hw1
 refine xo_mv rfl rfl rfl ?_
 refine xo_ext rfl rfl rfl rfl ?_
 refine xo_ext rfl rfl rfl rfl ?_
 refine xo_asg rfl rfl rfl ?_
 refine xo_asg rfl rfl rfl ?_
 with_reducible (refine xo_nil ?_; (repeat (first | refine xqT ?_ | refine xqB ?_ | refine xqS ?_)); (repeat refine xc_seq ?_); refine xcR ?_)
 refine xo_mv rfl rfl rfl ?_
 refine xo_neq rfl rfl rfl rfl ?_
 with_reducible (refine xo_nil ?_; (repeat (first | refine xqT ?_ | refine xqB ?_ | refine xqS ?_)); (repeat refine xc_seq ?_))
 refine xc_condF rfl ?_
 with_reducible (refine xc_skip ?_; (repeat (first | refine xqT ?_ | refine xqB ?_ | refine xqS ?_)))
 generalize hζ : siteH bs (scnV R A gs.length c E B ms.length c2) R.toNat gs pre (some (fb, fc)) (some (wb, wc)) = ζ
 with_reducible ((repeat refine xc_seq ?_); refine xcR ?_)
 refine xo_fa T_ rfl rfl rfl rfl rfl ?_
 refine xo_load0 T_ rfl rfl rfl (by repeat first | exact memH | apply memT | apply memA) rfl rfl ?_
 refine xo_sub rfl rfl rfl (by omega) rfl ?_
 refine xo_mv rfl rfl rfl ?_
 refine xo_bs1 T_ rfl rfl rfl rfl rfl rfl rfl rfl (fun b20 => ?_)
 refine xo_callB (fs := []) (cs := []) rfl rfl rfl in_enters rfl (fun w1 hw1 => in_calls hw1 0 (R - 1) room (by repeat first | exact memH | apply memT | apply memA)) ?_
 refine xo_as (i := 21) rfl (congrArg Value.bool hr) ?_
 refine xo_notOp rfl rfl rfl ?_
 with_reducible (refine xo_nil ?_; (repeat (first | refine xqT ?_ | refine xqB ?_ | refine xqS ?_)); (repeat refine xc_seq ?_))
 refine xc_condF rfl ?_
 with_reducible (refine xc_skip ?_; (repeat (first | refine xqT ?_ | refine xqB ?_ | refine xqS ?_)); (repeat refine xc_seq ?_); refine xcR ?_)
 refine xo_mv rfl rfl rfl ?_
 refine xo_asg rfl rfl rfl ?_
 refine xo_asg rfl rfl rfl ?_
 with_reducible (refine xo_nil ?_; (repeat (first | refine xqT ?_ | refine xqB ?_ | refine xqS ?_)); (repeat refine xc_seq ?_); refine xc_ret ?_; (repeat (first | refine xq_thenR ?_ | refine xq_blockR ?_ | refine xq_scopeR ?_)))
 refine xq_ret2 rfl rfl rfl fun w' hw => ⟨bs, pre, fb, fc, wb, wc, rfl, hp, by rw [hζ]; exact hw.sub (List.Sublist.cons _ (List.sublist_append_left _ _))⟩
end
theorem roomed_enters : ∀ args w, (callFunc 35 args).run Tryz.prog w = .ok (.enter 35 args) w := enters_of Tryz.func35 (by kernel_rfl) rfl
/-! ### rooms -/
def roomsN (E : Int) (R : Nat) (gs : List GatT) (ms : List MarT) : List Nat := (List.range R).filter fun r => canF E R gs r ms
def intsN (l : List Nat) : List Int := l.map fun n : Nat => (n : Int)
theorem intsN_nodup {l : List Nat} (h : l.Nodup) : (intsN l).Nodup := by
 induction l with
 | nil => exact List.nodup_nil
 | cons x l ih =>
   rw [List.nodup_cons] at h
   simp only [intsN, List.map_cons, List.nodup_cons] at ih ⊢
   refine ⟨fun hm => h.1 ?_, ih h.2⟩
   obtain ⟨y, hy, e⟩ := List.mem_map.1 hm
   have : y = x := by omega
   exact this ▸ hy
theorem intsN_range_succ (k : Nat) : insN (k : Int) (intsN (List.range k)) = intsN (List.range (k + 1)) := by
 unfold insN
 rw [if_neg (by
   intro h
   obtain ⟨y, hy, e⟩ := List.mem_map.1 h
   have := List.mem_range.1 hy
   omega), List.range_succ]
 simp [intsN]
def leftN (p : Nat → Bool) (R j : Nat) : List Nat := (List.range R).filter fun r => decide (j ≤ r) || p r
theorem leftN_zero (p : Nat → Bool) (R : Nat) : leftN p R 0 = List.range R := by simp [leftN]
theorem leftN_end (p : Nat → Bool) (R : Nat) : leftN p R R = (List.range R).filter p := by
 unfold leftN
 refine List.filter_congr fun r hr => ?_
 have := List.mem_range.1 hr
 simp
 omega
theorem leftN_yes (p : Nat → Bool) (R j : Nat) (h : p j = true) : leftN p R (j + 1) = leftN p R j := by
 unfold leftN
 refine List.filter_congr fun r hr => ?_
 by_cases e : r = j
 · subst e; simp [h]
 · have : decide (j + 1 ≤ r) = decide (j ≤ r) := by rw [Bool.eq_iff_iff]; simp; omega
   rw [this]
theorem leftN_no (p : Nat → Bool) (R j : Nat) (h : p j = false) : delN (j : Int) (intsN (leftN p R j)) = intsN (leftN p R (j + 1)) := by
 unfold delN
 have hn : (leftN p R j).Nodup := List.Nodup.sublist List.filter_sublist List.nodup_range
 rw [(intsN_nodup hn).erase_eq_filter]
 unfold intsN
 rw [List.filter_map]
 congr 1
 unfold leftN
 rw [List.filter_filter]
 refine List.filter_congr fun r hr => ?_
 simp only [Function.comp]
 by_cases e : r = j
 · subst e; simp [h]
 · have e2 : ((r : Int) != (j : Int)) = true := by simp; omega
   have : decide (j + 1 ≤ r) = decide (j ≤ r) := by rw [Bool.eq_iff_iff]; simp; omega
   rw [this, e2, Bool.true_and]
theorem sort_ints {l : List Nat} (h : l.Pairwise (· < ·)) : sortF (intsN l) = intsN l := by
 have tr : ∀ a b c : Int, decide (a ≤ b) = true → decide (b ≤ c) = true → decide (a ≤ c) = true := fun a b c h1 h2 => by simp at *; omega
 have tot : ∀ a b : Int, (decide (a ≤ b) || decide (b ≤ a)) = true := fun a b => by simp; omega
 refine List.Perm.eq_of_pairwise (le := fun a b => decide (a ≤ b) = true) (fun a b _ _ h1 h2 => ?_) (List.pairwise_mergeSort tr tot _) ?_ (List.mergeSort_perm _ _)
 · simp only [decide_eq_true_eq] at h1 h2
   omega
 · unfold intsN
   rw [List.pairwise_map]
   exact h.imp fun q => by simp; omega
theorem roomsN_rising (E : Int) (R : Nat) (gs : List GatT) (ms : List MarT) : (roomsN E R gs ms).Pairwise (· < ·) := List.Pairwise.filter _ List.pairwise_lt_range
theorem roomsN_len (E : Int) (R : Nat) (gs : List GatT) (ms : List MarT) : (roomsN E R gs ms).length ≤ R := by
 have := List.length_filter_le (fun r => canF E R gs r ms) (List.range R)
 rwa [List.length_range] at this
set_option maxHeartbeats 8000000 in
theorem rooms_calls (bs R : Nat) (E : Int) (gs : List GatT) (B Bm : Option Addr) (nm c2 cm : Nat) (ms : List MarT) (w : World) (hs : SiteOK w bs R E gs B nm c2) (hM : RowOf marV 7 zMar w Bm ms) (hm8 : ms.length ≤ 8) (hmk : ∀ m ∈ ms, MarkOK m) :
   Calls Tryz.prog 46 #[.pointer (some ⟨bs, 0, none⟩), .slice Bm ms.length cm] w fun e w' => ∃ r : RowR, e = .returned (valR r (roomsN E R gs ms).length) ∧ RowAt 3 w.heap.size w' r (intsN (roomsN E R gs ms)) ∧ Below w.heap.size w w' := by
 have hs0 := hs
 obtain ⟨hR6, hE6, hG, hglob, fb, fc, wv, A, c, hS⟩ := hs
 have hsV := hS.site
 refine x_calls (X := XNone) Tryz.func46 rfl rfl rfl ?_
 with_reducible ((repeat refine xc_seq ?_); refine xcR ?_)
 refine xo_asg rfl rfl rfl ?_
 with_reducible (refine xo_nil ?_; (repeat (first | refine xqT ?_ | refine xqB ?_ | refine xqS ?_)); (repeat refine xc_seq ?_); refine xcR ?_)
 refine xo_mkm rfl rfl (fun b8 => ?_)
 refine xo_asg rfl rfl rfl ?_
 with_reducible (refine xo_nil ?_; (repeat (first | refine xqT ?_ | refine xqB ?_ | refine xqS ?_)); (repeat refine xc_seq ?_); refine xcR ?_)
 refine xo_mv rfl rfl rfl ?_
 refine xo_nilck rfl rfl rfl ?_
 refine xo_fa T_ rfl rfl rfl rfl rfl ?_
 refine xo_fa T_ rfl rfl rfl rfl rfl ?_
 refine xo_loadR0 T_ rfl rfl rfl (hsV.lit (j := 0) rfl) rfl ?_
 refine xo_mv rfl rfl rfl ?_
 with_reducible (refine xo_nil ?_; (repeat (first | refine xqT ?_ | refine xqB ?_ | refine xqS ?_)); (repeat refine xc_seq ?_); refine xc_block ?_)
 refine xc_loop (γ := Nat) (fun k => k ≤ R) (fun k => [(0, .pointer (some ⟨bs, 0, none⟩)), (1, .slice Bm ms.length cm), (5, .map (some b8)), (13, .int .i64 (R : Int)), (14, .int .i64 (k : Int))]) (fun k => [(b8, true, hmap (setV (intsN (List.range k))))]) (fun k => R - k) 0 (Nat.zero_le _) ⟨rfl, rfl, rfl, rfl, rfl, trivial⟩ (by repeat (first | exact List.Sublist.refl _ | apply List.Sublist.cons_cons | apply List.Sublist.cons | exact List.nil_sublist _)) ?_
 intro k hk
 with_reducible ((repeat refine xc_seq ?_); refine xcR ?_)
 refine xo_lss rfl rfl rfl rfl ?_
 with_reducible (refine xo_nil ?_; (repeat (first | refine xqT ?_ | refine xqB ?_ | refine xqS ?_)); (repeat refine xc_seq ?_))
 refine xc_cond rfl (fun h => ?_) (fun h => ?_)
 · have hlt : k < R := by have := of_decide_eq_true h; omega
   have hnx := intsN_range_succ k
   with_reducible (refine xc_skip ?_; (repeat (first | refine xqT ?_ | refine xqB ?_ | refine xqS ?_)); (repeat refine xc_seq ?_); refine xc_block ?_; (repeat refine xc_seq ?_); refine xcR ?_)
   refine xo_mv rfl rfl rfl ?_
   refine xo_asg rfl rfl rfl ?_
   with_reducible (refine xo_nil ?_; (repeat (first | refine xqT ?_ | refine xqB ?_ | refine xqS ?_)); (repeat refine xc_seq ?_); refine xcR ?_)
   refine xo_mv rfl rfl rfl ?_
   refine xo_mv rfl rfl rfl ?_
   refine xo_sins T_ rfl rfl rfl rfl rfl rfl (by repeat first | exact memH | apply memT | apply memA) (by repeat (first | exact Upd.head | apply Upd.tail | apply Upd.app)) rfl ?_
   with_reducible (refine xo_nil ?_; (repeat (first | refine xqT ?_ | refine xqB ?_ | refine xqS ?_)); (repeat refine xc_seq ?_); refine xcR ?_)
   refine xo_add rfl rfl rfl (by omega) rfl ?_
   refine xo_mv rfl rfl rfl ?_
   with_reducible (refine xo_nil ?_; (repeat (first | refine xqT ?_ | refine xqB ?_ | refine xqS ?_)))
   exact xq_again _ _ _ _ _ (k + 1) (by omega) (by omega) ⟨rfl, rfl, rfl, rfl, rfl, trivial⟩ (by rw [← hnx]; exact (by repeat (first | exact List.Sublist.refl _ | apply List.Sublist.cons_cons | apply List.Sublist.cons | exact List.nil_sublist _)))
 have hge : R = k := by have := of_decide_eq_false h; omega
 subst hge
 with_reducible (refine xc_exit ?_; (repeat (first | refine xq_blockX ?_ | refine xq_thenE ?_ | refine xq_blockE rfl ?_ | refine xq_scopeE ?_)); (repeat (first | refine xqT ?_ | refine xqB ?_ | refine xqS ?_)); (repeat refine xc_seq ?_); refine xcR ?_)
 refine xo_mv rfl rfl rfl ?_
 refine xo_nilck rfl rfl rfl ?_
 refine xo_fa T_ rfl rfl rfl rfl rfl ?_
 refine xo_fa T_ rfl rfl rfl rfl rfl ?_
 refine xo_loadR0 T_ rfl rfl rfl (hsV.lit (j := 0) rfl) rfl ?_
 refine xo_mv rfl rfl rfl ?_
 with_reducible (refine xo_nil ?_; (repeat (first | refine xqT ?_ | refine xqB ?_ | refine xqS ?_)); (repeat refine xc_seq ?_); refine xc_block ?_)
 rw [← leftN_zero (fun r => canF E R gs r ms) R]
 refine xc_loop (γ := Nat) (fun k => k ≤ R) (fun k => [(0, .pointer (some ⟨bs, 0, none⟩)), (1, .slice Bm ms.length cm), (5, .map (some b8)), (24, .int .i64 (R : Int)), (25, .int .i64 (k : Int))]) (fun k => [(b8, true, hmap (setV (intsN (leftN (fun r => canF E R gs r ms) R k))))]) (fun k => R - k) 0 (Nat.zero_le _) ⟨rfl, rfl, rfl, rfl, rfl, trivial⟩ (by repeat (first | exact List.Sublist.refl _ | apply List.Sublist.cons_cons | apply List.Sublist.cons | exact List.nil_sublist _)) ?_
 intro k hk
 with_reducible ((repeat refine xc_seq ?_); refine xcR ?_)
 refine xo_lss rfl rfl rfl rfl ?_
 with_reducible (refine xo_nil ?_; (repeat (first | refine xqT ?_ | refine xqB ?_ | refine xqS ?_)); (repeat refine xc_seq ?_))
 refine xc_cond rfl (fun h => ?_) (fun h => ?_)
 · have hlt : k < R := by have := of_decide_eq_true h; omega
   with_reducible (refine xc_skip ?_; (repeat (first | refine xqT ?_ | refine xqB ?_ | refine xqS ?_)); (repeat refine xc_seq ?_); refine xc_block ?_; (repeat refine xc_seq ?_); refine xcR ?_)
   refine xo_mv rfl rfl rfl ?_
   refine xo_asg rfl rfl rfl ?_
   with_reducible (refine xo_nil ?_; (repeat (first | refine xqT ?_ | refine xqB ?_ | refine xqS ?_)))
   cases hc : canF E R gs k ms
   · have hnx := leftN_no (fun r => canF E R gs r ms) R k hc
     with_reducible ((repeat refine xc_seq ?_); refine xcR ?_)
     refine xo_mv rfl rfl rfl ?_
     refine xo_mv rfl rfl rfl ?_
     refine xo_mv rfl rfl rfl ?_
     refine xo_callB (fs := []) (cs := []) rfl rfl rfl can_enters rfl (fun w1 hw1 => can_calls bs R E gs B Bm nm c2 cm ms k w1 (hs0.below hw1.kx.below) (hM.below hw1.kx.below) hm8 hmk (by omega)) ?_
     refine xo_as (i := 31) rfl (congrArg Value.bool hc) ?_
     refine xo_notOp rfl rfl rfl ?_
     with_reducible (refine xo_nil ?_; (repeat (first | refine xqT ?_ | refine xqB ?_ | refine xqS ?_)); (repeat refine xc_seq ?_))
     refine xc_condT rfl ?_
     with_reducible ((repeat refine xc_seq ?_); refine xcR ?_)
     refine xo_mv rfl rfl rfl ?_
     refine xo_mv rfl rfl rfl ?_
     refine xo_sdel T_ rfl rfl rfl rfl rfl (by repeat first | exact memH | apply memT | apply memA) (by repeat (first | exact Upd.head | apply Upd.tail | apply Upd.app)) rfl ?_
     with_reducible (refine xo_nil ?_; (repeat (first | refine xqT ?_ | refine xqB ?_ | refine xqS ?_)); (repeat refine xc_seq ?_); refine xcR ?_)
     refine xo_add rfl rfl rfl (by omega) rfl ?_
     refine xo_mv rfl rfl rfl ?_
     with_reducible (refine xo_nil ?_; (repeat (first | refine xqT ?_ | refine xqB ?_ | refine xqS ?_)))
     exact xq_again _ _ _ _ _ (k + 1) (by omega) (by omega) ⟨rfl, rfl, rfl, rfl, rfl, trivial⟩ (by rw [← hnx]; exact (by repeat (first | exact List.Sublist.refl _ | apply List.Sublist.cons_cons | apply List.Sublist.cons | exact List.nil_sublist _)))
   · have hnx := leftN_yes (fun r => canF E R gs r ms) R k hc
     with_reducible ((repeat refine xc_seq ?_); refine xcR ?_)
     refine xo_mv rfl rfl rfl ?_
     refine xo_mv rfl rfl rfl ?_
     refine xo_mv rfl rfl rfl ?_
     refine xo_callB (fs := []) (cs := []) rfl rfl rfl can_enters rfl (fun w1 hw1 => can_calls bs R E gs B Bm nm c2 cm ms k w1 (hs0.below hw1.kx.below) (hM.below hw1.kx.below) hm8 hmk (by omega)) ?_
     refine xo_as (i := 31) rfl (congrArg Value.bool hc) ?_
     refine xo_notOp rfl rfl rfl ?_
     with_reducible (refine xo_nil ?_; (repeat (first | refine xqT ?_ | refine xqB ?_ | refine xqS ?_)); (repeat refine xc_seq ?_))
     refine xc_condF rfl ?_
     with_reducible (refine xc_skip ?_; (repeat (first | refine xqT ?_ | refine xqB ?_ | refine xqS ?_)); (repeat refine xc_seq ?_); refine xcR ?_)
     refine xo_add rfl rfl rfl (by omega) rfl ?_
     refine xo_mv rfl rfl rfl ?_
     with_reducible (refine xo_nil ?_; (repeat (first | refine xqT ?_ | refine xqB ?_ | refine xqS ?_)))
     exact xq_again _ _ _ _ _ (k + 1) (by omega) (by omega) ⟨rfl, rfl, rfl, rfl, rfl, trivial⟩ (by rw [hnx]; exact (by repeat (first | exact List.Sublist.refl _ | apply List.Sublist.cons_cons | apply List.Sublist.cons | exact List.nil_sublist _)))
 have hge : R = k := by have := of_decide_eq_false h; omega
 subst hge
 rw [leftN_end]
 have hrl := roomsN_len E R gs ms
 have hrs := roomsN_rising E R gs ms
 show XC _ _ _ _ _ _ _ _ _ [(b8, true, hmap (setV (intsN (roomsN E R gs ms))))] _
 generalize roomsN E R gs ms = rl at hrl hrs
 have hil : (intsN rl).length = rl.length := by simp [intsN]
 with_reducible (refine xc_exit ?_; (repeat (first | refine xq_blockX ?_ | refine xq_thenE ?_ | refine xq_blockE rfl ?_ | refine xq_scopeE ?_)); (repeat (first | refine xqT ?_ | refine xqB ?_ | refine xqS ?_)); (repeat refine xc_seq ?_); refine xcR ?_)
 refine xo_mv rfl rfl rfl ?_
 refine xo_call (fs := []) (cs := []) rfl rfl rfl keys_enters rfl (fun w1 hw1 => (keys_calls b8 w1).mono ?_)
 rintro e w2 ⟨BK, rfl, hB1, hB2, hb⟩
 refine ⟨_, _, rfl, hw1.more (φ := cel [.map (some b8)] 89) hb hB1 hB2 rfl, ?_⟩
 clear hB1 hB2 hb hw1
 refine xo_call (fs := []) (cs := []) rfl rfl rfl sorted_enters rfl (fun w1 hw1 => (sorted_calls 77 [.pointer (some ⟨BK, 0, none⟩)] keysIter_enters (fun k => k = BK ∨ k = b8) (intsN rl) (intsN rl).length w1 (iter_keys (intsN rl) b8 BK w1 (hw1.obj (wr := true) (cs := [.map (some b8)]) (by repeat first | exact memH | apply memT | apply memA)) (hw1.imap (wr := true) (by repeat first | exact memH | apply memT | apply memA))) (fun k hk => hk.elim (fun e => e ▸ hw1.lt (e := (BK, true, cel [.map (some b8)] 89)) (by repeat first | exact memH | apply memT | apply memA)) (fun e => e ▸ hw1.lt (e := (b8, true, hmap (setV (intsN rl)))) (by repeat first | exact memH | apply memT | apply memA))) (by omega) (by omega)).mono ?_)
 rintro e w2 ⟨r11, rfl, hrw, hb⟩
 rw [sort_ints hrs] at hrw ⊢
 have h11 := hrw.1
 refine ⟨_, _, rfl, hw1.row hb hrw, ?_⟩
 clear hrw hb hw1
 refine xo_asg rfl rfl rfl ?_
 with_reducible (refine xo_nil ?_; (repeat (first | refine xqT ?_ | refine xqB ?_ | refine xqS ?_)); (repeat refine xc_seq ?_); refine xc_ret ?_; (repeat (first | refine xq_thenR ?_ | refine xq_blockR ?_ | refine xq_scopeR ?_)))
 refine xq_ret1 rfl rfl fun w' hw => ⟨r11, by rw [hil], RowAt.of hw h11, hw.kx.below⟩
theorem rooms_enters : ∀ args w, (callFunc 46 args).run Tryz.prog w = .ok (.enter 46 args) w := enters_of Tryz.func46 (by kernel_rfl) rfl
theorem siteOK_of {w : World} {bs n : Nat} {E : Int} {gs : List GatT} {A B : Option Addr} {c nm c2 : Nat} {pre : List DelT} {fb fc : Nat} {rw_ : RowR} (hR : 1 ≤ n ∧ n ≤ 6) (hE : 0 ≤ E ∧ E ≤ 600) (hG : GatesR n gs) (hg : GlobO w) (h : InW (siteH bs (scnV n A gs.length c E B nm c2) n gs pre (some (fb, fc)) rw_) w) (hp : pre.map (·.2) = allD gs) : SiteOK w bs n E gs B nm c2 :=
 ⟨hR, hE, hG, hg, fb, fc, _, A, c, siteR_of h hp⟩
/-- a scene that came in -/
structure SceneAt (w : World) (A B : Option Addr) (gs : List GatT) (ms : List MarT) : Prop where
 gates : Kd.C gatK w A gs.length gs
 marks : Kd.C marK w B ms.length ms
 bytes : BytesK ms
 glob : GlobO w
theorem SceneAt.below {w w' : World} {A B : Option Addr} {gs : List GatT} {ms : List MarT} (h : SceneAt w A B gs ms) (hb : Below w.heap.size w w') : SceneAt w' A B gs ms := ⟨Kd.C_below h.gates hb, Kd.C_below h.marks hb, h.bytes, h.glob.below hb⟩
def valA (r : RowR) : Option Addr := r.map fun p => ⟨p.1, 0, none⟩
def valC (r : RowR) : Nat := (r.map (·.2)).getD 0
theorem valR_eq {r : RowR} {n : Nat} (h : r = none → n = 0) : valR r n = .slice (valA r) n (valC r) := by
 cases r with
 | none => rw [h rfl]; rfl
 | some p => rfl
theorem beganFrom_mem {E : Int} {R : Nat} {gs : List GatT} {room : Nat} {ms : List MarT} : ∀ (ls : List (List Int)) (i : Nat) (x : Nat × SpaT), x ∈ beganFrom E R gs room ms i ls ↔ ∃ k, k < ls.length ∧ x.1 = i + k ∧ x.2 = winF E (farM R gs (ls.getD k []) room) ms ∧ x.2.f0 ≤ x.2.f1
 | [], i, x => by simp [beganFrom]
 | l :: ls, i, x => by
   have ih := beganFrom_mem (E := E) (R := R) (gs := gs) (room := room) (ms := ms) ls (i + 1) x
   have tl : (∃ k, k < ls.length ∧ x.1 = i + 1 + k ∧ x.2 = winF E (farM R gs (ls.getD k []) room) ms ∧ x.2.f0 ≤ x.2.f1) ↔ ∃ k, k + 1 < (l :: ls).length ∧ x.1 = i + (k + 1) ∧ x.2 = winF E (farM R gs ((l :: ls).getD (k + 1) []) room) ms ∧ x.2.f0 ≤ x.2.f1 := by
     constructor
     · rintro ⟨k, h1, h2, h3, h4⟩
       exact ⟨k, by simpa using h1, by omega, by simpa using h3, h4⟩
     · rintro ⟨k, h1, h2, h3, h4⟩
       exact ⟨k, by simpa using h1, by omega, by simpa using h3, h4⟩
   rw [beganFrom]
   split
   · rename_i hle
     rw [List.mem_cons, ih, tl]
     constructor
     · rintro (rfl | ⟨k, h⟩)
       · exact ⟨0, by simp, by simp, by simp, hle⟩
       · exact ⟨k + 1, h⟩
     · rintro ⟨k, h1, h2, h3, h4⟩
       cases k with
       | zero =>
         left
         obtain ⟨x1, x2⟩ := x
         simp at h2 h3
         subst h2
         rw [h3]
       | succ k => exact .inr ⟨k, h1, h2, h3, h4⟩
   · rename_i hle
     rw [ih, tl]
     constructor
     · rintro ⟨k, h⟩
       exact ⟨k + 1, h⟩
     · rintro ⟨k, h1, h2, h3, h4⟩
       cases k with
       | zero =>
         simp at h3
         rw [h3] at h4
         exact absurd h4 hle
       | succ k => exact ⟨k, h1, h2, h3, h4⟩
theorem beganL_mem {E : Int} {R : Nat} {gs : List GatT} {room : Nat} {ms : List MarT} {x : Nat × SpaT} : x ∈ beganL E R gs room ms ↔ x.1 < (allD gs).length ∧ x.2 = winF E (farM R gs ((allD gs).getD x.1 []) room) ms ∧ x.2.f0 ≤ x.2.f1 := by
 unfold beganL
 rw [beganFrom_mem]
 constructor
 · rintro ⟨k, h1, h2, h3, h4⟩
   rw [Nat.zero_add] at h2
   rw [h2]
   exact ⟨h1, h3, h4⟩
 · rintro ⟨h1, h2, h3⟩
   exact ⟨x.1, h1, by omega, h2, h3⟩
theorem roomOK_nat {n : Nat} {room : Int} (hn : n ≤ 6) (h : roomOK n room = true) : ∃ r : Nat, room = r ∧ r < n := by
 have := inF_iff.1 h
 exact ⟨room.toNat, by omega, by omega⟩
end Go.Proofs.YtommeljlfkmpjaaGreatDoor
namespace Go.Proofs.YtommeljlfkmpjaaGreatDoor
open Go.RowKit Go.Proofs.YtommeljlfkmpjaaGreatDoorW.PrintWords
set_option linter.unusedVariables false
set_option linter.unusedSimpArgs false
/-- a row of elements of sz cells that a call has made -/
def RowZ (e : TypeId) (sz n base : Nat) (w : World) (r : RowR) (cells : List Value) : Prop := (r = none → n = 0) ∧ ∀ p, r = some p → base ≤ p.1 ∧ ∃ o, w.heap[p.1]? = some o ∧ orow e sz n p.2 cells o
theorem WOK.rowZ {w0 : World} {X : Nat → Prop} {η : Hp} {w w' : World} (h : WOK w0 X η w) (hb : Below w.heap.size w w') {e : TypeId} {sz n : Nat} {r : RowR} {xs : List Value} (hr : RowZ e sz n w.heap.size w' r xs) : WOK w0 X (hpR e sz r n xs ++ η) w' := by
 cases r with
 | none => exact h.below hb
 | some p =>
   obtain ⟨h1, o, h2, h3⟩ := hr.2 p rfl
   exact h.more hb h1 h2 h3
theorem RowZ.of {w0 : World} {η : Hp} {w : World} {e : TypeId} {sz n : Nat} {r : RowR} {xs : List Value} (h : WOK w0 XNone (hpR e sz r n xs ++ η) w) (h0 : r = none → n = 0) : RowZ e sz n w0.heap.size w r xs := by
 refine ⟨h0, fun p hp => ?_⟩
 subst hp
 exact ⟨h.own (List.Mem.head _), h.bl (p.1, true, orow e sz n p.2 xs) (List.Mem.head _)⟩
def bitN (s i : Nat) : Bool := decide (((s / 2 ^ i % 2 : Nat) : Int) = 1)
/-- the marks of a set -/
def chosenL (s : Nat) (ms : List MarT) : Nat → List MarT
 | 0 => []
 | k + 1 => if bitN s k = true then chosenL s ms k ++ [ms.getD k zMar] else chosenL s ms k
def setOf (ms : List MarT) (s : Nat) : List MarT := chosenL s ms ms.length
theorem chosenL_len (s : Nat) (ms : List MarT) : ∀ k, (chosenL s ms k).length ≤ k
 | 0 => Nat.le_refl _
 | k + 1 => by
   have := chosenL_len s ms k
   unfold chosenL
   split
   · simp; omega
   · omega
theorem chosenL_mem (s : Nat) (ms : List MarT) : ∀ k, k ≤ ms.length → ∀ m ∈ chosenL s ms k, m ∈ ms
 | 0, _, m, hm => by cases hm
 | k + 1, hk, m, hm => by
   unfold chosenL at hm
   split at hm
   · rcases List.mem_append.1 hm with hm | hm
     · exact chosenL_mem s ms k (by omega) m hm
     · rw [List.mem_singleton.1 hm]; exact getD_mem ms zMar k (by omega)
   · exact chosenL_mem s ms k (by omega) m hm
def idsL (l : List MarT) : List Int := l.map (·.f0)
/-! ### the order -/
theorem cmpL_irr : ∀ x : List MarT, cmpL x x = 0
 | [] => rfl
 | x :: xs => by rw [cmpL, if_pos (by omega)]; exact cmpL_irr xs
theorem cmpL_trans : ∀ x y z : List MarT, cmpL x y < 0 → cmpL y z < 0 → cmpL x z < 0
 | [], [], z, h, _ => by simp [cmpL] at h
 | [], _ :: _, [], _, h => by simp [cmpL] at h
 | [], _ :: _, _ :: _, _, _ => by simp [cmpL]
 | _ :: _, [], _, h, _ => by simp [cmpL] at h
 | _ :: _, _ :: _, [], _, h => by simp [cmpL] at h
 | x :: xs, y :: ys, z :: zs, h1, h2 => by
   rw [cmpL] at h1 h2 ⊢
   have ih := cmpL_trans xs ys zs
   split at h1 <;> split at h2 <;> split <;> first | omega | exact ih h1 h2
theorem cmpL_ntrans : ∀ x y z : List MarT, ¬ cmpL x y < 0 → ¬ cmpL y z < 0 → ¬ cmpL x z < 0
 | [], [], z, _, h => h
 | [], _ :: _, _, h, _ => by simp [cmpL] at h
 | _ :: _, [], [], _, _ => by simp [cmpL]
 | _ :: _, [], _ :: _, _, h => by simp [cmpL] at h
 | _ :: _, _ :: _, [], _, _ => by simp [cmpL]
 | x :: xs, y :: ys, z :: zs, h1, h2 => by
   rw [cmpL] at h1 h2 ⊢
   have ih := cmpL_ntrans xs ys zs
   split at h1 <;> split at h2 <;> split <;> first | omega | exact ih h1 h2
theorem cmpL_ids : ∀ x y : List MarT, ¬ cmpL x y < 0 → ¬ cmpL y x < 0 → idsL x = idsL y
 | [], [], _, _ => rfl
 | [], _ :: _, h, _ => by simp [cmpL] at h
 | _ :: _, [], _, h => by simp [cmpL] at h
 | x :: xs, y :: ys, h1, h2 => by
   rw [cmpL] at h1 h2
   have ih := cmpL_ids xs ys
   by_cases e : x.f0 = y.f0
   · rw [if_pos (by omega)] at h1 h2
     simp only [idsL, List.map_cons] at ih ⊢
     rw [e, ih h1 h2]
   · rw [if_neg (by omega)] at h1 h2
     omega
theorem cmpS_irr (x : List MarT) : ¬ cmpS x x < 0 := by rw [cmpS, if_pos rfl, cmpL_irr]; omega
theorem cmpS_trans (x y z : List MarT) (h1 : cmpS x y < 0) (h2 : cmpS y z < 0) : cmpS x z < 0 := by
 have t := cmpL_trans x y z
 unfold cmpS at *
 split at h1 <;> split at h2 <;> split <;> first | omega | exact t h1 h2
theorem cmpS_ntrans (x y z : List MarT) (h1 : ¬ cmpS x y < 0) (h2 : ¬ cmpS y z < 0) : ¬ cmpS x z < 0 := by
 have t := cmpL_ntrans x y z
 unfold cmpS at *
 split at h1 <;> split at h2 <;> split <;> first | omega | exact t h1 h2
theorem cmpS_ids (x y : List MarT) (h1 : ¬ cmpS x y < 0) (h2 : ¬ cmpS y x < 0) : idsL x = idsL y := by
 have t := cmpL_ids x y
 unfold cmpS at *
 split at h1 <;> split at h2 <;> first | omega | exact t h1 h2
/-! ### the least of which something is so -/
def bestF (p : List MarT → Bool) (b : Option (List MarT)) (l : List MarT) : Option (List MarT) := if p l = true then (match b with
 | none => some l
 | some q => if cmpS l q < 0 then some l else some q) else b
def bestL (p : List MarT → Bool) (ls : List (List MarT)) : Option (List MarT) := ls.foldl (bestF p) none
theorem best_spec (p : List MarT → Bool) : ∀ (ls : List (List MarT)) (b0 : Option (List MarT)), (∀ q, b0 = some q → p q = true) →
   (ls.foldl (bestF p) b0 = none ∧ b0 = none ∧ ∀ l ∈ ls, p l = false) ∨ ∃ q, ls.foldl (bestF p) b0 = some q ∧ p q = true ∧ (q ∈ ls ∨ b0 = some q) ∧ (∀ l ∈ ls, p l = true → ¬ cmpS l q < 0) ∧ (∀ r, b0 = some r → ¬ cmpS r q < 0)
 | [], b0, h0 => by
   cases b0 with
   | none => exact .inl ⟨rfl, rfl, fun l hl => by cases hl⟩
   | some q => exact .inr ⟨q, rfl, h0 q rfl, .inr rfl, (fun l hl => by cases hl), fun r hr => by cases hr; exact cmpS_irr q⟩
 | l :: ls, b0, h0 => by
   rw [List.foldl_cons]
   cases hp : p l
   · have e : bestF p b0 l = b0 := by unfold bestF; rw [if_neg (by rw [hp]; exact Bool.false_ne_true)]
     rw [e]
     rcases best_spec p ls b0 h0 with ⟨h1, h2, h3⟩ | ⟨q, h1, h2, h3, h4, h5⟩
     · exact .inl ⟨h1, h2, fun x hx => by rcases List.mem_cons.1 hx with rfl | hx; exact hp; exact h3 x hx⟩
     · exact .inr ⟨q, h1, h2, h3.imp_left (List.mem_cons_of_mem _), (fun x hx => by rcases List.mem_cons.1 hx with rfl | hx; exact fun h => absurd (h.symm.trans hp) (by decide); exact h4 x hx), h5⟩
   · have e : ∃ r, bestF p b0 l = some r ∧ (r = l ∨ b0 = some r) ∧ ¬ cmpS l r < 0 ∧ ∀ s, b0 = some s → ¬ cmpS s r < 0 := by
       unfold bestF
       rw [if_pos hp]
       cases b0 with
       | none => exact ⟨l, rfl, .inl rfl, cmpS_irr l, fun s hs => by cases hs⟩
       | some q =>
         simp only
         split
         · rename_i hlt
           exact ⟨l, rfl, .inl rfl, cmpS_irr l, fun s hs => by cases hs; exact fun h => cmpS_irr _ (cmpS_trans _ _ _ hlt h)⟩
         · rename_i hge
           exact ⟨q, rfl, .inr rfl, hge, fun s hs => by cases hs; exact cmpS_irr q⟩
     obtain ⟨r, e1, e2, e3, e4⟩ := e
     rw [e1]
     have hr : p r = true := by
       rcases e2 with rfl | e2
       · exact hp
       · exact h0 r e2
     rcases best_spec p ls (some r) (fun q hq => by cases hq; exact hr) with ⟨_, h2, _⟩ | ⟨q, h1, h2, h3, h4, h5⟩
     · cases h2
     · have hrq := h5 r rfl
       refine .inr ⟨q, h1, h2, ?_, (fun x hx => ?_), fun s hs => cmpS_ntrans _ _ _ (e4 s hs) hrq⟩
       · rcases h3 with h3 | h3
         · exact .inl (List.mem_cons_of_mem _ h3)
         · cases h3
           rcases e2 with rfl | e2
           · exact .inl List.mem_cons_self
           · exact .inr e2
       · rcases List.mem_cons.1 hx with rfl | hx
         · exact fun _ => cmpS_ntrans _ _ _ e3 hrq
         · exact h4 x hx
/-- the numbers of the fewest marks of which something is so -/
def fewestL (p : List MarT → Bool) (ls : List (List MarT)) : List Int := match bestL p ls with
 | none => []
 | some q => idsL q
/-- the first of what is sorted -/
theorem first_best (p : List MarT → Bool) {ls ys : List (List MarT)} (hp : ys.Perm ls) (hs : ys.Pairwise fun x y => ¬ cmpS y x < 0) : (match ys.find? p with | none => [] | some q => idsL q) = fewestL p ls := by
 unfold fewestL bestL
 rcases best_spec p ls none (fun q hq => by cases hq) with ⟨h1, _, h3⟩ | ⟨q, h1, h2, h3, h4, _⟩
 · rw [h1, List.find?_eq_none.2 (fun x hx => by rw [h3 x (hp.mem_iff.1 hx)]; exact Bool.false_ne_true)]
 · rw [h1]
   have hq : q ∈ ys := hp.mem_iff.2 (h3.resolve_right fun x => by cases x)
   cases hf : ys.find? p with
   | none =>
     rw [List.find?_eq_none] at hf
     exact absurd h2 (hf q hq)
   | some r =>
     simp only
     obtain ⟨hr, l1, l2, rfl, hno⟩ := List.find?_eq_some_iff_append.1 hf
     refine cmpS_ids r q (h4 r (hp.mem_iff.1 (by simp)) hr) ?_
     -- q lies behind r, or is r
     rw [List.pairwise_append] at hs
     rcases List.mem_append.1 hq with hq | hq
     · have := hno q hq
       rw [h2] at this
       cases this
     · rcases List.mem_cons.1 hq with rfl | hq
       · exact cmpS_irr q
       · exact (List.pairwise_cons.1 hs.2.1).1 q hq
/-! ### the sort -/
structure SetV where
 A : Option Addr
 C : Nat
 l : List MarT
def setS (x : SetV) : Value := .slice x.A x.l.length x.C
def SetOK (b : Nat) (w : World) (x : SetV) : Prop := RowOf marV 7 zMar w x.A x.l ∧ IdsOK x.l ∧ (0 < x.l.length → ∀ ad, x.A = some ad → ad.block ≠ b)
theorem take_putCellsG {α : Type} [Inhabited α] (enc : α → Value) (cur : Array Value) (ts : List α) (h : ts.length ≤ cur.size) : (Sort.putCells enc 0 ts.toArray cur).toList.take ts.length = ts.map enc := by
 apply List.ext_getElem?
 intro j
 by_cases hj : j < ts.length
 · rw [List.getElem?_take_of_lt hj, Array.getElem?_toList]
   simp [Sort.putCells, hj, show j < cur.size by omega]
 · rw [List.getElem?_take_eq_none (by omega), List.getElem?_eq_none (by simp; omega)]
theorem sortWorld_grown {α : Type} [Inhabited α] (enc : α → Value) {w : World} {g n : Nat} {os : Array Obj} (d : Array α) : w.grownBy (sortWorld enc w g 0 n d os) (some g) := by
 unfold sortWorld
 refine ⟨rfl, rfl, rfl, by simp, fun k hk hne => ?_⟩
 rw [Sort.heap_grow_old _ _ (by simpa using hk)]
 have : g ≠ k := fun e => hne (by rw [e])
 simp [Sort.putRow, Sort.mapBlock, Sort.ahead, Array.getElem?_modify, this]
theorem sortWorld_at {α : Type} [Inhabited α] (enc : α → Value) {w : World} {g n : Nat} {os : Array Obj} {cur : Array Value} {e : TypeId} {fr : Nat × Nat} (d : Array α) (hb : w.heap[g]? = some (.cells cur e fr)) : (sortWorld enc w g 0 n d os).heap[g]? = some (.cells (Sort.putCells enc 0 d cur) e fr) := by
 unfold sortWorld
 have hg : g < w.heap.size := (Array.getElem?_eq_some_iff.1 hb).1
 rw [Sort.heap_grow_old _ _ (by simpa using hg)]
 simp [Sort.putRow, Sort.mapBlock, Sort.ahead, Array.getElem?_modify, hb, Sort.onCells]
theorem sortSets_enters : ∀ args w, (callFunc 60 args).run Tryz.prog w = .ok (.enter 60 args) w := enters_of Tryz.func60 (by kernel_rfl) rfl
theorem sortSets_calls (b cap B : Nat) (xs : List SetV) (w : World) (o : Obj) (h1 : w.heap[b]? = some o) (h2 : orow 23 1 xs.length cap (xs.map setS) o) (hx : ∀ x ∈ xs, SetOK b w x) (hl : xs.length ≤ 1000000) (hB : RO w XNone ⟨B, 0, none⟩ [.func (.func 59) #[] #[]]) (hne : B ≠ b) :
   Calls Tryz.prog 60 #[.slice (some ⟨b, 0, none⟩) xs.length cap, .func (.func 61) #[] #[.pointer (some ⟨B, 0, none⟩)]] w fun e w' => e = .returned (.tuple #[]) ∧ Kx (fun k => k = b) w w' ∧ ∃ ys : List SetV, ys.Perm xs ∧ (ys.map (·.l)).Pairwise (fun x y => ¬ cmpS y x < 0) ∧ ∃ o', w'.heap[b]? = some o' ∧ orow 23 1 xs.length cap (ys.map setS) o' := by
 obtain ⟨cur, rfl, h5, h6, h7, h8⟩ := h2
 rw [Nat.mul_one] at h7 h8
 have hlt : b < w.heap.size := (Array.getElem?_eq_some_iff.1 h1).1
 letI : Inhabited {x : SetV // SetOK b w x} := ⟨⟨⟨none, 0, []⟩, fun k hk => absurd hk (Nat.not_lt_zero _), ⟨Nat.zero_le _, fun m hm => by cases hm⟩, fun h => absurd h (Nat.not_lt_zero _)⟩⟩
 let enc : {x : SetV // SetOK b w x} → Value := fun x => setS x.1
 let cf : {x : SetV // SetOK b w x} → {x : SetV // SetOK b w x} → Int := fun x y => cmpS x.1.l y.1.l
 let d : List {x : SetV // SetOK b w x} := xs.attach.map fun x => ⟨x.1, hx x.1 x.2⟩
 have hd : d.map (·.1) = xs := by simp [d]
 have hdl : d.length = xs.length := by simp [d]
 have hde : d.map enc = xs.map setS := by
   have := congrArg (List.map setS) hd
   rw [List.map_map] at this
   exact this
 have hO : Sort.SWO (ltOf cf) := ⟨fun x => by simpa [ltOf, cf] using cmpS_irr x.1.l, fun x y z h1 h2 => by simp only [ltOf, decide_eq_true_eq] at *; exact cmpS_trans _ _ _ h1 h2, fun x y z h1 h2 => by simp only [ltOf, decide_eq_false_iff_not] at *; exact cmpS_ntrans _ _ _ h1 h2⟩
 have hH : Sort.Holds enc w b 0 d.toArray := by
   intro j hj
   have hj' : j < d.length := by simpa using hj
   refine ⟨?_, by simp [World.frozen?, h1]⟩
   have h9 : (cur.toList.take xs.length)[j]? = (d.map enc)[j]? := by rw [h8, hde]
   rw [List.getElem?_take_of_lt (by omega)] at h9
   simp only [World.cell?, h1, Nat.zero_add]
   simp only [Option.isSome_none, Bool.false_eq_true, if_false]
   rw [← Array.getElem?_toList, h9]
   simp [hj']
 have hcmp : CmpLays1 Tryz.prog 61 #[.pointer (some ⟨B, 0, none⟩)] enc cf b 0 d.toArray.size w := by
   intro m os dk hs x y
   have hg := sortWorld_grown enc (w := w) (g := b) (n := m) (os := os) dk
   have hkeep : ∀ k, (k ≠ b ∧ k < w.heap.size) → (sortWorld enc w b 0 m dk os).heap[k]? = w.heap[k]? := fun k hk => hg.block k hk.2 (fun q => hk.1 (Option.some.inj q))
   have hrow : ∀ x : {x : SetV // SetOK b w x}, RowOf marV 7 zMar (sortWorld enc w b 0 m dk os) x.1.A x.1.l := fun x => x.2.1.keep (fun k => k ≠ b ∧ k < w.heap.size) (fun h ad e => ⟨x.2.2.2 h ad e, x.2.1.lt marV_0 h ad e⟩) hkeep
   exact Q.fewer_calls x.1.A y.1.A x.1.C y.1.C x.1.l y.1.l B _ x.2.2.1 y.2.2.1 (hrow x) (hrow y) (RO.blk hB (hkeep B ⟨hne, hB.lt⟩))
 have hc := Any.slices_SortFunc laysF enc (fun _ => rfl) cf hO 61 #[.pointer (some ⟨B, 0, none⟩)] b 0 cap d.toArray w Q.fewer_enters hcmp hH hlt (by simp [d]; omega)
 rw [show d.toArray.size = xs.length by simp [d]] at hc
 refine Calls.mono (show Calls Tryz.prog 60 _ _ _ from hc) ?_
 rintro e w' ⟨rfl, d', n, os, hp, hsd, rfl⟩
 have hg := sortWorld_grown enc (w := w) (g := b) (n := n) (os := os) d'
 have hsz : d'.size = xs.length := by rw [hp.1]; simp [d]
 have hperm : d'.toList.Perm d := by
   have := hp.2.2
   rw [Array.extract_eq_self_of_le (by omega), Array.extract_eq_self_of_le (by simp [d])] at this
   simpa using this
 refine ⟨rfl, ⟨hg.os, hg.tape, hg.output, hg.size, fun k hk hne => hg.block k hk (fun q => hne (Option.some.inj q))⟩, d'.toList.map (·.1), ?_, ?_, _, sortWorld_at enc d' h1, _, rfl, h5, h6, ?_, ?_⟩
 · rw [← hd]; exact hperm.map _
 · rw [List.map_map, List.pairwise_map, List.pairwise_iff_getElem]
   intro i j hi hj hij
   have h := hsd i j (Nat.zero_le _) hij (by simpa [hsz] using hj)
   simp only [ltOf, decide_eq_false_iff_not] at h
   have hi' : i < d'.size := by simpa using hi
   have hj' : j < d'.size := by simpa using hj
   rw [getElem!_pos d' i hi', getElem!_pos d' j hj'] at h
   simpa using h
 · rw [Nat.mul_one, ← h7]
   simp [Sort.putCells]
 · rw [Nat.mul_one, List.map_map]
   have := take_putCellsG enc cur d'.toList (by simp; omega)
   rw [Array.length_toList, hsz, Array.toArray_toList] at this
   exact this
section
variable {P : Program} {ro : Option Nat} {n N : Nat} {ds : List Deferred} {w0 : World} {X : Nat → Prop} {Q : Exit → Act → World → Prop} {σ : Slots} {η : Hp} {ops rest : List Oper}
theorem xo_less {η' : Hp} (hs : List.Sublist η' η) (h : XO P ro n N ds w0 X Q ops σ η' rest) : XO P ro n N ds w0 X Q ops σ η rest := fun a w ha hw => h a w ha (hw.sub hs)
/-- from this world on -/
theorem xc_anew {c : Code} (h : ∀ w, WOK w0 X η w → XC P ro n N ds w XNone Q σ [] c) : XC P ro n N ds w0 X Q σ η c := fun a w ha hw => h w hw a w ha (WOK.start XNone w)
end
def marL (l : List MarT) : List Value := (l.map marV).flatten
theorem marL_len (l : List MarT) : (marL l).length = l.length * 7 := by
 unfold marL
 rw [flat_len 7 _ (by intro c hc; obtain ⟨x, _, rfl⟩ := List.mem_map.1 hc; rfl), List.length_map]
theorem marL_app (l : List MarT) (x : MarT) : marL (l ++ [x]) = marL l ++ marV x := by simp [marL]
theorem marV_one (x : MarT) : (marV x).all (·.oneCell') = true := rfl
/-- a row of marks of the call's own, as_ it is read -/
theorem rowOf_orow {w : World} {b cap : Nat} {l : List MarT} {o : Obj} (h : w.heap[b]? = some o) (hr : orow 56 7 l.length cap (marL l) o) : RowOf marV 7 zMar w (some ⟨b, 0, none⟩) l := by
 obtain ⟨cur, rfl, h5, h6, h7, h8⟩ := hr
 intro k hk
 refine ⟨_, rfl, ro_of fun j v hj => ?_⟩
 have hj7 : j < 7 := (List.getElem?_eq_some_iff.1 hj).1
 rw [add_add, Addr.add_lit, Nat.zero_add, cell_of_row w b _ _ _ _ h, ← Array.getElem?_toList]
 have hx : (marL l)[k * 7 + j]? = some v := by
   unfold marL
   rw [flat_at 7 _ k j (by intro c hc; obtain ⟨x, _, rfl⟩ := List.mem_map.1 hc; rfl) hj7, List.getElem?_map, List.getElem?_eq_getElem hk]
   rw [show l.getD k zMar = l[k] by simp [List.getD_eq_getElem?_getD, List.getElem?_eq_getElem hk]] at hj
   simpa using hj
 rw [← h8, List.getElem?_take] at hx
 rw [show (k : Int).toNat * szN 7 + j = k * 7 + j by rw [Int.toNat_natCast]; rfl]
 split at hx
 · exact hx
 · cases hx
set_option maxHeartbeats 4000000 in
theorem chosen_calls (bs R : Nat) (E : Int) (gs : List GatT) (B : Option Addr) (c2 : Nat) (ms : List MarT) (s : Nat) (w : World) (hs : SiteOK w bs R E gs B ms.length c2) (hM : RowOf marV 7 zMar w B ms) (hm8 : ms.length ≤ 8) (hs8 : s ≤ 256) :
   Calls Tryz.prog 58 #[.pointer (some ⟨bs, 0, none⟩), .int .i64 (s : Int)] w fun e w' => ∃ r : RowR, e = .returned (valR r (setOf ms s).length) ∧ RowZ 56 7 (setOf ms s).length w.heap.size w' r (marL (setOf ms s)) ∧ Below w.heap.size w w' := by
 obtain ⟨hR6, hE6, hG, hglob, fb, fc, wv, A, c, hS⟩ := hs
 have hsV := hS.site
 refine x_calls (X := XNone) Tryz.func58 rfl rfl rfl ?_
 with_reducible ((repeat refine xc_seq ?_); refine xcR ?_)
 refine xo_asg rfl rfl rfl ?_
 with_reducible (refine xo_nil ?_; (repeat (first | refine xqT ?_ | refine xqB ?_ | refine xqS ?_)); (repeat refine xc_seq ?_); refine xcR ?_)
 refine xo_asg rfl rfl rfl ?_
 with_reducible (refine xo_nil ?_; (repeat (first | refine xqT ?_ | refine xqB ?_ | refine xqS ?_)); (repeat refine xc_seq ?_); refine xcR ?_)
 refine xo_mv rfl rfl rfl ?_
 refine xo_nilck rfl rfl rfl ?_
 refine xo_fa T_ rfl rfl rfl rfl rfl ?_
 refine xo_fa T_ rfl rfl rfl rfl rfl ?_
 refine xo_loadR0 T_ rfl rfl rfl (hsV.lit (j := 3) rfl) rfl ?_
 refine xo_len T_ rfl rfl rfl rfl ?_
 refine xo_mv rfl rfl rfl ?_
 with_reducible (refine xo_nil ?_; (repeat (first | refine xqT ?_ | refine xqB ?_ | refine xqS ?_)); (repeat refine xc_seq ?_); refine xc_block ?_)
 refine xc_loop (γ := Nat × RowR) (fun q => q.1 ≤ ms.length ∧ (q.2 = none → (chosenL s ms q.1).length = 0)) (fun q => [(1, .int .i64 (s : Int)), (5, valR q.2 (chosenL s ms q.1).length), (12, .slice B ms.length c2), (13, .int .i64 (ms.length : Int)), (14, .int .i64 (q.1 : Int))])
   (fun q => hpR 56 7 q.2 (chosenL s ms q.1).length (marL (chosenL s ms q.1)) ++ []) (fun q => ms.length - q.1) (0, none) ⟨Nat.zero_le _, fun _ => rfl⟩ ⟨rfl, rfl, rfl, rfl, rfl, trivial⟩ (List.nil_sublist _) ?_
 rintro ⟨k, rr⟩ ⟨hk, hrr⟩
 simp only at hk hrr
 have hcl := chosenL_len s ms k
 with_reducible ((repeat refine xc_seq ?_); refine xcR ?_)
 refine xo_lss rfl rfl rfl rfl ?_
 with_reducible (refine xo_nil ?_; (repeat (first | refine xqT ?_ | refine xqB ?_ | refine xqS ?_)); (repeat refine xc_seq ?_))
 refine xc_cond rfl (fun h => ?_) (fun h => ?_)
 · have hlt : k < ms.length := by have := of_decide_eq_true h; omega
   obtain ⟨ad, rfl, hRm⟩ := hM k hlt
   have hst : chosenL s ms (k + 1) = if bitN s k = true then chosenL s ms k ++ [ms.getD k zMar] else chosenL s ms k := rfl
   generalize chosenL s ms k = l at hrr hcl hst ⊢
   generalize ms.getD k zMar = m at hRm hst
   with_reducible (refine xc_skip ?_; (repeat (first | refine xqT ?_ | refine xqB ?_ | refine xqS ?_)); (repeat refine xc_seq ?_); refine xc_block ?_; (repeat refine xc_seq ?_); refine xcR ?_)
   refine xo_mv rfl rfl rfl ?_
   refine xo_ia T_ rfl rfl rfl rfl rfl ⟨by omega, by omega⟩ rfl ?_
   refine xo_loadRN T_ rfl rfl rfl hRm rfl rfl ?_
   refine xo_alloc T_ rfl rfl rfl rfl (fun b7 => ?_)
   refine xo_asg rfl rfl rfl ?_
   refine xo_store T_ rfl rfl rfl rfl (by repeat first | exact memH | apply memT | apply memA) rfl rfl rfl rfl (by repeat (first | exact Upd.head | apply Upd.tail | apply Upd.app)) rfl ?_
   with_reducible (refine xo_nil ?_; (repeat (first | refine xqT ?_ | refine xqB ?_ | refine xqS ?_)))
   cases hb : bitN s k
   · rw [hb, if_neg Bool.false_ne_true] at hst
     with_reducible ((repeat refine xc_seq ?_); refine xcR ?_)
     refine xo_mv rfl rfl rfl ?_
     refine xo_mv rfl rfl rfl ?_
     refine xo_shr rfl rfl rfl (by omega) rfl ?_
     refine xo_and1 rfl rfl rfl (Nat.lt_of_le_of_lt (Nat.div_le_self _ _) (by omega)) rfl ?_
     refine xo_eql rfl rfl rfl rfl ?_
     refine xo_as (i := 23) rfl (congrArg Value.bool hb) ?_
     with_reducible (refine xo_nil ?_; (repeat (first | refine xqT ?_ | refine xqB ?_ | refine xqS ?_)); (repeat refine xc_seq ?_))
     refine xc_condF rfl ?_
     with_reducible (refine xc_skip ?_; (repeat (first | refine xqT ?_ | refine xqB ?_ | refine xqS ?_)); (repeat refine xc_seq ?_); refine xcR ?_)
     refine xo_add rfl rfl rfl (by omega) rfl ?_
     refine xo_mv rfl rfl rfl ?_
     with_reducible (refine xo_nil ?_; (repeat (first | refine xqT ?_ | refine xqB ?_ | refine xqS ?_)))
     exact xq_again _ _ _ _ _ (k + 1, rr) ⟨hlt, fun q => by rw [hst]; exact hrr q⟩ (by simp only; omega) ⟨rfl, by rw [hst]; rfl, rfl, rfl, rfl, trivial⟩ (by rw [hst]; exact List.sublist_cons_self _ _)
   · rw [hb, if_pos rfl] at hst
     with_reducible ((repeat refine xc_seq ?_); refine xcR ?_)
     refine xo_mv rfl rfl rfl ?_
     refine xo_mv rfl rfl rfl ?_
     refine xo_shr rfl rfl rfl (by omega) rfl ?_
     refine xo_and1 rfl rfl rfl (Nat.lt_of_le_of_lt (Nat.div_le_self _ _) (by omega)) rfl ?_
     refine xo_eql rfl rfl rfl rfl ?_
     refine xo_as (i := 23) rfl (congrArg Value.bool hb) ?_
     with_reducible (refine xo_nil ?_; (repeat (first | refine xqT ?_ | refine xqB ?_ | refine xqS ?_)); (repeat refine xc_seq ?_))
     refine xc_condT rfl ?_
     with_reducible ((repeat refine xc_seq ?_); refine xcR ?_)
     refine xo_mv rfl rfl rfl ?_
     refine xo_loadN T_ rfl rfl rfl (by repeat first | exact memH | apply memT | apply memA) rfl rfl ?_
     refine xo_bsG T_ 7 rfl rfl rfl rfl rfl rfl rfl rfl rfl rfl (fun b26 => ?_)
     refine xo_less (η' := (b26, true, cel (marV m) 56) :: (hpR 56 7 rr l.length (marL l) ++ [])) (List.Sublist.cons_cons _ (List.sublist_cons_self _ _)) ?_
     refine xo_app TR_ rfl rfl rfl rfl rfl rfl rfl rfl (marL_len l) rfl rfl hrr (by omega) rfl rfl (fun r' hr' => ?_)
     refine xo_asg rfl rfl rfl ?_
     with_reducible (refine xo_nil ?_; (repeat (first | refine xqT ?_ | refine xqB ?_ | refine xqS ?_)); (repeat refine xc_seq ?_); refine xcR ?_)
     refine xo_add rfl rfl rfl (by omega) rfl ?_
     refine xo_mv rfl rfl rfl ?_
     with_reducible (refine xo_nil ?_; (repeat (first | refine xqT ?_ | refine xqB ?_ | refine xqS ?_)))
     exact xq_again _ _ _ _ _ (k + 1, r') ⟨hlt, fun q => absurd q hr'⟩ (by simp only; omega) ⟨rfl, by rw [hst, List.length_append]; rfl, rfl, rfl, rfl, trivial⟩ (by rw [hst, List.length_append, marL_app]; exact List.Sublist.refl _)
 have hge : k = ms.length := by have := of_decide_eq_false h; omega
 subst hge
 with_reducible (refine xc_exit ?_; (repeat (first | refine xq_blockX ?_ | refine xq_thenE ?_ | refine xq_blockE rfl ?_ | refine xq_scopeE ?_)); (repeat (first | refine xqT ?_ | refine xqB ?_ | refine xqS ?_)); (repeat refine xc_seq ?_); refine xcR ?_)
 refine xo_mv rfl rfl rfl ?_
 refine xo_asg rfl rfl rfl ?_
 with_reducible (refine xo_nil ?_; (repeat (first | refine xqT ?_ | refine xqB ?_ | refine xqS ?_)); (repeat refine xc_seq ?_); refine xc_ret ?_; (repeat (first | refine xq_thenR ?_ | refine xq_blockR ?_ | refine xq_scopeR ?_)))
 exact xq_ret1 rfl rfl fun w' hw => ⟨rr, rfl, RowZ.of hw hrr, hw.kx.below⟩
theorem chosen_enters : ∀ args w, (callFunc 58 args).run Tryz.prog w = .ok (.enter 58 args) w := enters_of Tryz.func58 (by kernel_rfl) rfl
/-! ### the first of which something is so -/
/-- a function value that tells whether something is so of a set -/
def AsksS (P : Program) (w : World) (g : Nat) (cs : List Value) (p : List MarT → Bool) (ok : World → SetV → Prop) : Prop := ∀ (x : SetV) (W : World), Below w.heap.size w W → ok W x → Calls P g ([setS x] ++ cs).toArray W fun e W' => e = .returned (.bool (p x.l)) ∧ Below W.heap.size W W'
theorem AsksS.below {P : Program} {w w' : World} {g : Nat} {cs : List Value} {p : List MarT → Bool} {ok : World → SetV → Prop} (h : AsksS P w g cs p ok) (hb : Below w.heap.size w w') : AsksS P w' g cs p ok := fun x W hW hx => h x W (below_step hb hW) hx
def zSet : SetV := ⟨none, 0, []⟩
theorem find_none {p : List MarT → Bool} {ys : List SetV} (h : ∀ j, j < ys.length → p (ys.getD j zSet).l = false) : ys.find? (fun x => p x.l) = none := by
 rw [List.find?_eq_none]
 intro x hx
 obtain ⟨j, hj, rfl⟩ := List.getElem_of_mem hx
 have := h j hj
 rw [show ys.getD j zSet = ys[j] by simp [List.getD_eq_getElem?_getD, List.getElem?_eq_getElem hj]] at this
 rw [this]
 exact Bool.false_ne_true
theorem find_some {p : List MarT → Bool} {ys : List SetV} {k : Nat} (hk : k < ys.length) (h : ∀ j, j < k → p (ys.getD j zSet).l = false) (hp : p (ys.getD k zSet).l = true) : ys.find? (fun x => p x.l) = some (ys.getD k zSet) := by
 have e : ys.take k ++ ys.getD k zSet :: ys.drop (k + 1) = ys := by
   rw [← drop_at ys zSet k hk, List.take_append_drop]
 have h2 : (ys.take k ++ ys.getD k zSet :: ys.drop (k + 1)).find? (fun x => p x.l) = some (ys.getD k zSet) := by
   rw [List.find?_append, List.find?_eq_none.2, List.find?_cons_of_pos (p := fun x : SetV => p x.l) hp, Option.none_or]
   intro x hx
   obtain ⟨j, hj, rfl⟩ := List.getElem_of_mem hx
   rw [List.length_take] at hj
   have := h j (by omega)
   rw [show ys.getD j zSet = ys[j] by simp [List.getD_eq_getElem?_getD, List.getElem?_eq_getElem (show j < ys.length by omega)]] at this
   rw [List.getElem_take, this]
   exact Bool.false_ne_true
 rwa [e] at h2
def SetsAt (w : World) (b : Nat) (ys : List SetV) : Prop := ∀ j, j < ys.length → w.cell? ⟨b, j, none⟩ = some (setS (ys.getD j zSet))
theorem SetsAt.below {w w' : World} {b : Nat} {ys : List SetV} (h : SetsAt w b ys) (hb : Below w.heap.size w w') : SetsAt w' b ys := fun j hj => (Kx.of_below (X := XNone) hb).cell (h j hj) (fun q => q)
theorem SetsAt.ro {w : World} {b : Nat} {ys : List SetV} (h : SetsAt w b ys) {j : Nat} (hj : j < ys.length) : RO w XNone (Addr.add ⟨b, 0, none⟩ ((j : Int).toNat * szN 0)) [setS (ys.getD j zSet)] := by
 refine ro1 ?_
 rw [Addr.add_lit, Nat.zero_add, show (j : Int).toNat * szN 0 = j by simp [szN]]
 exact h j hj
theorem indexS_calls (p : List MarT → Bool) (g : Nat) (cs : List Value) (eg : ∀ args w, (callFunc g args).run Tryz.prog w = .ok (.enter g args) w) (b cap : Nat) (ys : List SetV) (w : World) (ok : World → SetV → Prop) (hok : ∀ x ∈ ys, ∀ W, Below w.heap.size w W → ok W x) (hl : ys.length ≤ 1000000) (hr : SetsAt w b ys) (hp : AsksS Tryz.prog w g cs p ok) :
   Calls Tryz.prog 82 #[.slice (some ⟨b, 0, none⟩) ys.length cap, .func (.func g) #[] cs.toArray] w fun e w' => ((e = .returned (.int .i64 (-1)) ∧ ys.find? (fun x => p x.l) = none) ∨ ∃ k, k < ys.length ∧ e = .returned (.int .i64 (k : Int)) ∧ ys.find? (fun x => p x.l) = some (ys.getD k zSet)) ∧ Below w.heap.size w w' := by
 refine x_calls (X := XNone) Tryz.func82 rfl rfl rfl ?_
 with_reducible ((repeat refine xc_seq ?_); refine xcR ?_)
 refine xo_asg rfl rfl rfl ?_
 with_reducible (refine xo_nil ?_; (repeat (first | refine xqT ?_ | refine xqB ?_ | refine xqS ?_)); (repeat refine xc_seq ?_); refine xcR ?_)
 refine xo_mv rfl rfl rfl ?_
 refine xo_len T_ rfl rfl rfl rfl ?_
 refine xo_mv rfl rfl rfl ?_
 with_reducible (refine xo_nil ?_; (repeat (first | refine xqT ?_ | refine xqB ?_ | refine xqS ?_)); (repeat refine xc_seq ?_); refine xc_block ?_)
 refine xc_loop (γ := Nat) (fun k => k ≤ ys.length ∧ ∀ j, j < k → p (ys.getD j zSet).l = false) (fun k => [(0, .slice (some ⟨b, 0, none⟩) ys.length cap), (1, .func (.func g) #[] cs.toArray), (7, .int .i64 (ys.length : Int)), (8, .int .i64 (k : Int))]) (fun _ => []) (fun k => ys.length - k) 0
   ⟨Nat.zero_le _, fun j hj => absurd hj (Nat.not_lt_zero _)⟩ ⟨rfl, rfl, rfl, rfl, trivial⟩ (List.nil_sublist _) ?_
 rintro k ⟨hk, hno⟩
 with_reducible ((repeat refine xc_seq ?_); refine xcR ?_)
 refine xo_lss rfl rfl rfl rfl ?_
 with_reducible (refine xo_nil ?_; (repeat (first | refine xqT ?_ | refine xqB ?_ | refine xqS ?_)); (repeat refine xc_seq ?_))
 refine xc_cond rfl (fun h => ?_) (fun h => ?_)
 · have hlt : k < ys.length := by have := of_decide_eq_true h; omega
   have r1 := hr.ro hlt
   with_reducible (refine xc_skip ?_; (repeat (first | refine xqT ?_ | refine xqB ?_ | refine xqS ?_)); (repeat refine xc_seq ?_); refine xc_block ?_; (repeat refine xc_seq ?_); refine xcR ?_)
   refine xo_mv rfl rfl rfl ?_
   refine xo_asg rfl rfl rfl ?_
   with_reducible (refine xo_nil ?_; (repeat (first | refine xqT ?_ | refine xqB ?_ | refine xqS ?_)); (repeat refine xc_seq ?_); refine xcR ?_)
   refine xo_mv rfl rfl rfl ?_
   refine xo_mv rfl rfl rfl ?_
   refine xo_mv rfl rfl rfl ?_
   refine xo_ia T_ rfl rfl rfl rfl rfl ⟨by omega, by omega⟩ rfl ?_
   refine xo_loadR0 T_ rfl rfl rfl r1 rfl ?_
   refine xo_callB (fs := []) rfl rfl rfl eg rfl (fun w1 hw1 => hp (ys.getD k zSet) _ hw1.kx.below (hok _ (getD_mem ys zSet k hlt) _ hw1.kx.below)) ?_
   with_reducible (refine xo_nil ?_; (repeat (first | refine xqT ?_ | refine xqB ?_ | refine xqS ?_)); (repeat refine xc_seq ?_))
   refine xc_cond rfl (fun h2 => ?_) (fun h2 => ?_)
   · with_reducible repeat refine xc_seq ?_
     with_reducible refine xcR ?_
     refine xo_mv rfl rfl rfl ?_
     refine xo_asg rfl rfl rfl ?_
     with_reducible (refine xo_nil ?_; (repeat (first | refine xqT ?_ | refine xqB ?_ | refine xqS ?_)); (repeat refine xc_seq ?_); refine xc_ret ?_; (repeat (first | refine xq_thenR ?_ | refine xq_blockR ?_ | refine xq_scopeR ?_)))
     exact (xq_ret1 rfl rfl fun w' hw => ⟨.inr ⟨k, hlt, rfl, find_some hlt hno h2⟩, hw.kx.below⟩)
   · with_reducible refine xc_skip ?_
     with_reducible ((repeat (first | refine xqT ?_ | refine xqB ?_ | refine xqS ?_)); (repeat refine xc_seq ?_); refine xcR ?_)
     refine xo_add rfl rfl rfl (by omega) rfl ?_
     refine xo_mv rfl rfl rfl ?_
     with_reducible (refine xo_nil ?_; (repeat (first | refine xqT ?_ | refine xqB ?_ | refine xqS ?_)))
     refine xq_again _ _ _ _ _ (k + 1) ⟨by omega, fun j hj => ?_⟩ (by omega) ⟨rfl, rfl, rfl, rfl, trivial⟩ (List.nil_sublist _)
     by_cases e : j = k
     · subst e; exact h2
     · exact hno j (by omega)
 · have hge : ¬ k < ys.length := by have := of_decide_eq_false h; omega
   with_reducible (refine xc_exit ?_; (repeat (first | refine xq_blockX ?_ | refine xq_thenE ?_ | refine xq_blockE rfl ?_ | refine xq_scopeE ?_)); (repeat (first | refine xqT ?_ | refine xqB ?_ | refine xqS ?_)); (repeat refine xc_seq ?_); refine xcR ?_)
   refine xo_asg rfl rfl rfl ?_
   with_reducible (refine xo_nil ?_; (repeat (first | refine xqT ?_ | refine xqB ?_ | refine xqS ?_)); (repeat refine xc_seq ?_); refine xc_ret ?_; (repeat (first | refine xq_thenR ?_ | refine xq_blockR ?_ | refine xq_scopeR ?_)))
   exact xq_ret1 rfl rfl fun w' hw => ⟨.inl ⟨rfl, find_none fun j hj => hno j (by omega)⟩, hw.kx.below⟩
theorem indexS_enters : ∀ args w, (callFunc 82 args).run Tryz.prog w = .ok (.enter 82 args) w := enters_of Tryz.func82 (by kernel_rfl) rfl
theorem first_calls (p : List MarT → Bool) (g : Nat) (cs : List Value) (eg : ∀ args w, (callFunc g args).run Tryz.prog w = .ok (.enter g args) w) (b cap : Nat) (ys : List SetV) (w : World) (ok : World → SetV → Prop) (hok : ∀ x ∈ ys, ∀ W, Below w.heap.size w W → ok W x) (hl : ys.length ≤ 1000000) (hr : SetsAt w b ys) (hp : AsksS Tryz.prog w g cs p ok) :
   Calls Tryz.prog 64 #[.slice (some ⟨b, 0, none⟩) ys.length cap, .func (.func g) #[] cs.toArray] w fun e w' => (∃ t, e = .returned (.tuple #[setS ((ys.find? fun x => p x.l).getD zSet), .bool t])) ∧ Below w.heap.size w w' := by
 refine x_calls (X := XNone) Tryz.func64 rfl rfl rfl ?_
 with_reducible ((repeat refine xc_seq ?_); refine xcR ?_)
 refine xo_asg rfl rfl rfl ?_
 refine xo_asg rfl rfl rfl ?_
 with_reducible (refine xo_nil ?_; (repeat (first | refine xqT ?_ | refine xqB ?_ | refine xqS ?_)); (repeat refine xc_seq ?_); refine xcR ?_)
 refine xo_mv rfl rfl rfl ?_
 refine xo_mv rfl rfl rfl ?_
 refine xo_call (fs := []) (cs := []) rfl rfl rfl indexS_enters rfl (fun w1 hw1 => (indexS_calls p g cs eg b cap ys w1 ok (fun x hx W hW => hok x hx W (below_step hw1.kx.below hW)) hl (hr.below hw1.kx.below) (hp.below hw1.kx.below)).mono ?_)
 rintro e w2 ⟨⟨rfl, hf⟩ | ⟨k, hk, rfl, hf⟩, hb⟩
 rw [hf]
 · refine ⟨_, _, rfl, hw1.below hb, ?_⟩
   clear hb hw1
   refine xo_asg rfl rfl rfl ?_
   with_reducible (refine xo_nil ?_; (repeat (first | refine xqT ?_ | refine xqB ?_ | refine xqS ?_)); (repeat refine xc_seq ?_); refine xcR ?_)
   refine xo_mv rfl rfl rfl ?_
   refine xo_geq rfl rfl rfl rfl ?_
   with_reducible (refine xo_nil ?_; (repeat (first | refine xqT ?_ | refine xqB ?_ | refine xqS ?_)); (repeat refine xc_seq ?_))
   refine xc_condF rfl ?_
   with_reducible (refine xc_skip ?_; (repeat (first | refine xqT ?_ | refine xqB ?_ | refine xqS ?_)); (repeat refine xc_seq ?_); refine xcR ?_)
   refine xo_asg rfl rfl rfl ?_
   with_reducible (refine xo_nil ?_; (repeat (first | refine xqT ?_ | refine xqB ?_ | refine xqS ?_)); (repeat refine xc_seq ?_); refine xcR ?_)
   refine xo_mv rfl rfl rfl ?_
   refine xo_asg rfl rfl rfl ?_
   refine xo_asg rfl rfl rfl ?_
   with_reducible (refine xo_nil ?_; (repeat (first | refine xqT ?_ | refine xqB ?_ | refine xqS ?_)); (repeat refine xc_seq ?_); refine xc_ret ?_; (repeat (first | refine xq_thenR ?_ | refine xq_blockR ?_ | refine xq_scopeR ?_)))
   exact xq_ret2 rfl rfl rfl fun w' hw => ⟨⟨_, rfl⟩, hw.kx.below⟩
 rw [hf]
 refine ⟨_, _, rfl, hw1.below hb, ?_⟩
 clear hb hw1
 refine xo_asg rfl rfl rfl ?_
 with_reducible (refine xo_nil ?_; (repeat (first | refine xqT ?_ | refine xqB ?_ | refine xqS ?_)))
 have r1 := hr.ro hk
 have hd : decide ((0 : Int) ≤ (k : Int)) = true := by simp
 with_reducible ((repeat refine xc_seq ?_); refine xcR ?_)
 refine xo_mv rfl rfl rfl ?_
 refine xo_geq rfl rfl rfl rfl ?_
 refine xo_as (i := 12) rfl (congrArg Value.bool hd) ?_
 with_reducible (refine xo_nil ?_; (repeat (first | refine xqT ?_ | refine xqB ?_ | refine xqS ?_)); (repeat refine xc_seq ?_))
 refine xc_condT rfl ?_
 with_reducible ((repeat refine xc_seq ?_); refine xcR ?_)
 refine xo_mv rfl rfl rfl ?_
 refine xo_mv rfl rfl rfl ?_
 refine xo_ia T_ rfl rfl rfl rfl rfl ⟨by omega, by omega⟩ rfl ?_
 refine xo_loadR0 T_ rfl rfl rfl r1 rfl ?_
 refine xo_asg rfl rfl rfl ?_
 refine xo_asg rfl rfl rfl ?_
 with_reducible (refine xo_nil ?_; (repeat (first | refine xqT ?_ | refine xqB ?_ | refine xqS ?_)); (repeat refine xc_seq ?_); refine xc_ret ?_; (repeat (first | refine xq_thenR ?_ | refine xq_blockR ?_ | refine xq_scopeR ?_)))
 exact xq_ret2 rfl rfl rfl fun w' hw => ⟨⟨_, rfl⟩, hw.kx.below⟩
theorem first_enters : ∀ args w, (callFunc 64 args).run Tryz.prog w = .ok (.enter 64 args) w := enters_of Tryz.func64 (by kernel_rfl) rfl
abbrev SetW := RowR × List MarT
def toSet (x : SetW) : SetV := ⟨valA x.1, valC x.1, x.2⟩
def haS (x : SetW) : Hp := hpR 56 7 x.1 x.2.length (marL x.2)
def setH (pre : List SetW) : Hp := pre.reverse.flatMap haS
theorem setH_app (pre : List SetW) (x : SetW) : setH (pre ++ [x]) = haS x ++ setH pre := by simp [setH]
def sliceS (x : SetW) : Value := valR x.1 x.2.length
theorem sliceS_eq {x : SetW} (h : x.1 = none → x.2.length = 0) : sliceS x = setS (toSet x) := valR_eq h
def allSets (ms : List MarT) : List (List MarT) := (List.range (2 ^ ms.length)).map (setOf ms)
theorem two8 {n : Nat} (h : n ≤ 8) : 0 < 2 ^ n ∧ 2 ^ n ≤ 256 := ⟨Nat.pow_pos (by omega), Nat.le_trans (Nat.pow_le_pow_right (by omega) h) (by decide)⟩
/-- the set's row, in the world -/
theorem setRow {w : World} {x : SetW} (hx : x.1 = none → x.2.length = 0) (h : ∀ e ∈ haS x, ∃ o, w.heap[e.1]? = some o ∧ e.2.2 o) : RowOf marV 7 zMar w (valA x.1) x.2 := by
 obtain ⟨r, l⟩ := x
 cases r with
 | none =>
   have h0 : l.length = 0 := hx rfl
   intro k hk
   have h1 : k < l.length := hk
   omega
 | some p =>
   obtain ⟨o, h1, h2⟩ := h (p.1, true, orow 56 7 l.length p.2 (marL l)) (List.Mem.head _)
   exact rowOf_orow h1 h2
theorem haS_mem {pre : List SetW} {x : SetW} (hx : x ∈ pre) {e : Nat × Bool × HP} (he : e ∈ haS x) : e ∈ setH pre := List.mem_flatMap.2 ⟨x, List.mem_reverse.2 hx, he⟩
theorem setsAt_of {w : World} {b cap : Nat} {ys : List SetV} {o : Obj} (h : w.heap[b]? = some o) (hr : orow 23 1 ys.length cap (ys.map setS) o) : SetsAt w b ys := by
 obtain ⟨cur, rfl, h5, h6, h7, h8⟩ := hr
 rw [Nat.mul_one] at h8
 intro j hj
 rw [cell_of_row w b j _ _ _ h, ← Array.getElem?_toList]
 have hx : (ys.map setS)[j]? = some (setS (ys.getD j zSet)) := by
   rw [List.getElem?_map, List.getElem?_eq_getElem hj]
   simp [List.getD_eq_getElem?_getD, List.getElem?_eq_getElem hj]
 rw [← h8, List.getElem?_take_of_lt hj] at hx
 exact hx
/-- what is asked of a function that fewest is handed -/
def okM (ms : List MarT) (W : World) (x : SetV) : Prop := (RowOf marV 7 zMar W x.A x.l ∧ ∀ m ∈ x.l, m ∈ ms) ∧ x.l.length ≤ 8
set_option maxHeartbeats 40000000 in
theorem fewest_calls (p : List MarT → Bool) (g : Nat) (cs : List Value) (eg : ∀ args w, (callFunc g args).run Tryz.prog w = .ok (.enter g args) w) (bs R : Nat) (E : Int) (gs : List GatT) (B : Option Addr) (c2 : Nat) (ms : List MarT) (w : World) (hs : SiteOK w bs R E gs B ms.length c2) (hM : RowOf marV 7 zMar w B ms) (hms : IdsOK ms)
   (hp : AsksS Tryz.prog w g cs p (okM ms)) :
   Calls Tryz.prog 37 #[.pointer (some ⟨bs, 0, none⟩), .func (.func g) #[] cs.toArray] w fun e w' => ∃ r : RowR, e = .returned (valR r (fewestL p (allSets ms)).length) ∧ RowAt 3 w.heap.size w' r (fewestL p (allSets ms)) ∧ Below w.heap.size w w' := by
 have hm8 := hms.1
 have h256 := two8 hm8
 have hsite := hs
 obtain ⟨hR6, hE6, hG, hglob, fb, fc, wv, A, c, hS⟩ := hs
 have hsV := hS.site
 refine x_calls (X := XNone) Tryz.func37 rfl rfl rfl ?_
 with_reducible ((repeat refine xc_seq ?_); refine xcR ?_)
 refine xo_asg rfl rfl rfl ?_
 with_reducible (refine xo_nil ?_; (repeat (first | refine xqT ?_ | refine xqB ?_ | refine xqS ?_)); (repeat refine xc_seq ?_); refine xcR ?_)
 refine xo_asg rfl rfl rfl ?_
 with_reducible (refine xo_nil ?_; (repeat (first | refine xqT ?_ | refine xqB ?_ | refine xqS ?_)); (repeat refine xc_seq ?_); refine xcR ?_)
 refine xo_mv rfl rfl rfl ?_
 refine xo_nilck rfl rfl rfl ?_
 refine xo_fa T_ rfl rfl rfl rfl rfl ?_
 refine xo_fa T_ rfl rfl rfl rfl rfl ?_
 refine xo_loadR0 T_ rfl rfl rfl (hsV.lit (j := 3) rfl) rfl ?_
 refine xo_len T_ rfl rfl rfl rfl ?_
 refine xo_shl1 rfl rfl rfl (by omega) rfl ?_
 refine xo_mv rfl rfl rfl ?_
 with_reducible (refine xo_nil ?_; (repeat (first | refine xqT ?_ | refine xqB ?_ | refine xqS ?_)); (repeat refine xc_seq ?_); refine xc_block ?_)
 refine xc_loop (γ := List SetW × RowR) (fun q => q.1.length ≤ 2 ^ ms.length ∧ q.1.map (·.2) = (List.range q.1.length).map (setOf ms) ∧ (∀ x ∈ q.1, x.1 = none → x.2.length = 0) ∧ (q.2 = none → q.1.length = 0)) (fun q => [(0, .pointer (some ⟨bs, 0, none⟩)), (1, .func (.func g) #[] cs.toArray), (5, valR q.2 q.1.length), (19, .int .i64 ((2 ^ ms.length : Nat) : Int)), (20, .int .i64 (q.1.length : Int))])
   (fun q => hpR 23 1 q.2 q.1.length (q.1.map sliceS) ++ setH q.1) (fun q => 2 ^ ms.length - q.1.length) ([], none) ⟨Nat.zero_le _, rfl, (fun x hx => by cases hx), fun _ => rfl⟩ ⟨rfl, rfl, rfl, rfl, rfl, trivial⟩ (List.nil_sublist _) ?_
 rintro ⟨pre, rr⟩ ⟨hk, hsets, hnn, hrr⟩
 have hk : pre.length ≤ 2 ^ ms.length := hk
 have hsets : pre.map (·.2) = (List.range pre.length).map (setOf ms) := hsets
 have hnn : ∀ x ∈ pre, x.1 = none → x.2.length = 0 := hnn
 have hrr : rr = none → pre.length = 0 := hrr
 with_reducible ((repeat refine xc_seq ?_); refine xcR ?_)
 refine xo_lss rfl rfl rfl rfl ?_
 with_reducible (refine xo_nil ?_; (repeat (first | refine xqT ?_ | refine xqB ?_ | refine xqS ?_)); (repeat refine xc_seq ?_))
 refine xc_cond rfl (fun h => ?_) (fun h => ?_)
 · have hlt : pre.length < 2 ^ ms.length := by
     have h' : ((pre.length : Nat) : Int) < ((2 ^ ms.length : Nat) : Int) := of_decide_eq_true h
     omega
   with_reducible (refine xc_skip ?_; (repeat (first | refine xqT ?_ | refine xqB ?_ | refine xqS ?_)); (repeat refine xc_seq ?_); refine xc_block ?_; (repeat refine xc_seq ?_); refine xcR ?_)
   refine xo_mv rfl rfl rfl ?_
   refine xo_asg rfl rfl rfl ?_
   with_reducible (refine xo_nil ?_; (repeat (first | refine xqT ?_ | refine xqB ?_ | refine xqS ?_)); (repeat refine xc_seq ?_); refine xcR ?_)
   refine xo_mv rfl rfl rfl ?_
   refine xo_mv rfl rfl rfl ?_
   refine xo_mv rfl rfl rfl ?_
   refine xo_call (fs := []) (cs := []) rfl rfl rfl chosen_enters rfl (fun w1 hw1 => (chosen_calls bs R E gs B c2 ms pre.length w1 (hsite.below hw1.kx.below) (hM.below hw1.kx.below) hm8 (by omega)).mono ?_)
   rintro e w2 ⟨r, rfl, hrw, hb⟩
   have h11 := hrw.1
   refine ⟨_, _, rfl, hw1.rowZ hb hrw, ?_⟩
   clear hrw hb hw1
   refine xo_bs1 T_ rfl rfl rfl rfl rfl rfl (by cases r <;> rfl) rfl (fun b27 => ?_)
   refine xo_perm ((List.perm_append_comm_assoc _ _ _).cons _) ?_
   refine xo_app TR_ rfl rfl rfl rfl rfl rfl rfl rfl (by simp) rfl (by cases r <;> rfl) hrr (by omega) rfl rfl (fun r' hr' => ?_)
   refine xo_asg rfl rfl rfl ?_
   with_reducible (refine xo_nil ?_; (repeat (first | refine xqT ?_ | refine xqB ?_ | refine xqS ?_)); (repeat refine xc_seq ?_); refine xcR ?_)
   refine xo_add rfl rfl rfl (by omega) rfl ?_
   refine xo_mv rfl rfl rfl ?_
   with_reducible (refine xo_nil ?_; (repeat (first | refine xqT ?_ | refine xqB ?_ | refine xqS ?_)))
   refine xq_again _ _ _ _ _ (pre ++ [(r, setOf ms pre.length)], r') ⟨by simp; omega, ?_, fun x hx => ?_, fun q => absurd q hr'⟩ (by simp; omega) ⟨rfl, rfl, by simp only [List.length_append, List.length_singleton]; rfl, rfl, by simp only [List.length_append, List.length_singleton]; rfl, trivial⟩ ?_
   · simp only [List.length_append, List.length_singleton, List.range_succ, List.map_append, hsets, List.map_cons, List.map_nil]
   · rcases List.mem_append.1 hx with hx | hx
     · exact hnn x hx
     · rw [List.mem_singleton.1 hx]; exact h11
   · rw [setH_app, List.map_append]
     simp only [List.length_append, List.length_singleton]
     exact List.Sublist.refl _
 have hge : pre.length = 2 ^ ms.length := by
   have h' : ¬ ((pre.length : Nat) : Int) < ((2 ^ ms.length : Nat) : Int) := of_decide_eq_false h
   omega
 rcases rr with _ | ⟨b, cap⟩
 · have := hrr rfl
   omega
 have hids : ∀ x ∈ pre, IdsOK x.2 ∧ ∀ m ∈ x.2, m ∈ ms := fun x hx => by
   have h1 : x.2 ∈ pre.map (·.2) := List.mem_map.2 ⟨x, hx, rfl⟩
   rw [hsets] at h1
   obtain ⟨k, _, e⟩ := List.mem_map.1 h1
   have h2 : ∀ m ∈ x.2, m ∈ ms := fun m hm => chosenL_mem k ms ms.length (Nat.le_refl _) m (by rw [← e] at hm; exact hm)
   refine ⟨⟨?_, fun m hm => hms.2 m (h2 m hm)⟩, h2⟩
   have := chosenL_len k ms ms.length
   rw [show chosenL k ms ms.length = x.2 from e] at this
   omega
 have hall : (pre.map toSet).map (·.l) = allSets ms := by
   rw [List.map_map]
   show pre.map (·.2) = _
   rw [hsets, hge]
   rfl
 have hhd : pre.map sliceS = (pre.map toSet).map setS := by
   rw [List.map_map]
   exact List.map_congr_left fun x hx => sliceS_eq (hnn x hx)
 rw [hhd]
 with_reducible (refine xc_exit ?_; (repeat (first | refine xq_blockX ?_ | refine xq_thenE ?_ | refine xq_blockE rfl ?_ | refine xq_scopeE ?_)); (repeat (first | refine xqT ?_ | refine xqB ?_ | refine xqS ?_)); (repeat refine xc_seq ?_); refine xcR ?_)
 refine xo_alloc T_ rfl rfl rfl rfl (fun b7 => ?_)
 refine xo_store T_ rfl rfl rfl rfl (by repeat first | exact memH | apply memT | apply memA) rfl rfl rfl rfl (by repeat (first | exact Upd.head | apply Upd.tail | apply Upd.app)) rfl ?_
 with_reducible (refine xo_nil ?_; (repeat (first | refine xqT ?_ | refine xqB ?_ | refine xqS ?_)); (repeat refine xc_seq ?_); refine xcR ?_)
 refine xo_mv rfl rfl rfl ?_
 refine xo_mkf rfl rfl rfl rfl ?_
 refine xo_call (fs := []) (vs := [.slice (some ⟨b, 0, none⟩) (pre.map toSet).length cap, .func (.func 61) #[] #[.pointer (some ⟨b7, 0, none⟩)]]) rfl rfl (by rw [List.length_map]; rfl) sortSets_enters rfl (fun w1 hw1 => ?_)
 have hb7 := hw1.ro (b := b7) (wr := true) (t := 105) (by repeat first | exact memH | apply memT | apply memA)
 obtain ⟨o1, ho1, ho2⟩ := hw1.bl (b, true, orow 23 1 pre.length cap ((pre.map toSet).map setS)) (List.Mem.tail _ (List.Mem.head _))
 have hnd := hw1.nd
 simp only [hpR, List.cons_append, List.nil_append, List.map_cons, List.nodup_cons, List.mem_cons, not_or] at hnd
 have hok : ∀ x ∈ pre.map toSet, SetOK b w1 x := fun x hx => by
   obtain ⟨q, hq, rfl⟩ := List.mem_map.1 hx
   refine ⟨setRow (hnn q hq) (fun e he => hw1.bl e (List.mem_cons_of_mem _ (List.mem_cons_of_mem _ (haS_mem hq he)))), (hids q hq).1, fun h0 ad e => ?_⟩
   obtain ⟨r, l⟩ := q
   cases r with
   | none => cases e
   | some p =>
     cases e
     exact fun q2 => hnd.2.1 (List.mem_map.2 ⟨(p.1, true, _), haS_mem hq (List.Mem.head _), q2⟩)
 refine (sortSets_calls b cap b7 (pre.map toSet) w1 o1 ho1 (by rw [List.length_map]; exact ho2) hok (by rw [List.length_map]; omega) hb7 hnd.1.1).mono ?_
 rintro e w3 ⟨rfl, hk3, ys, hys, hsd, o3, ho3, ho4⟩
 rw [List.length_map] at ho4
 have hyl : ys.length = pre.length := by rw [hys.length_eq, List.length_map]
 refine ⟨_, _, rfl, hw1.updK (η' := (b7, true, cel [.func (.func 59) #[] #[]] 105) :: (b, true, orow 23 1 pre.length cap (ys.map setS)) :: setH pre) (φ' := orow 23 1 pre.length cap (ys.map setS)) (Upd.tail Upd.head) hk3 ho3 ho4, ?_⟩
 clear ho3 ho4 hk3 ho1 ho2 hw1 hok hnd hb7
 with_reducible (refine xo_nil ?_; (repeat (first | refine xqT ?_ | refine xqB ?_ | refine xqS ?_)))
 have hin : ∀ x ∈ ys, ∃ q ∈ pre, toSet q = x := fun x hx => List.mem_map.1 (hys.mem_iff.1 hx)
 have hbest := first_best p (ls := allSets ms) (ys := ys.map (·.l)) (by rw [← hall]; exact hys.map _) hsd
 rw [← hyl]
 refine xc_slots [(1, .func (.func g) #[] cs.toArray), (5, .slice (some ⟨b, 0, none⟩) ys.length cap), (7, .pointer (some ⟨b7, 0, none⟩))] ⟨rfl, by rw [hyl]; rfl, rfl, trivial⟩ ?_
 refine xc_anew fun wA hwA => ?_
 have hbA := hwA.kx.below
 have hsA : SetsAt wA b ys := by
   obtain ⟨o1, ho1, ho2⟩ := hwA.bl (b, true, orow 23 1 ys.length cap (ys.map setS)) (List.Mem.tail _ (List.Mem.head _))
   exact setsAt_of ho1 ho2
 have hrows : ∀ x ∈ ys, RowOf marV 7 zMar wA x.A x.l ∧ ∀ m ∈ x.l, m ∈ ms := fun x hx => by
   obtain ⟨q, hq, rfl⟩ := hin x hx
   exact ⟨setRow (hnn q hq) (fun e he => hwA.bl e (List.mem_cons_of_mem _ (List.mem_cons_of_mem _ (haS_mem hq he)))), (hids q hq).2⟩
 have hb7A := hwA.ro (b := b7) (wr := true) (t := 105) (by repeat first | exact memH | apply memT | apply memA)
 have hyl2 : ys.length ≤ 1000000 := by omega
 have h8 : ∀ x ∈ ys, x.l.length ≤ 8 := fun x hx => by
   obtain ⟨q, hq, rfl⟩ := hin x hx
   exact (hids q hq).1.1
 have hpA := hp.below hbA
 clear hwA hin hys hsd hall hhd hids hyl hsets hnn hsV hS hsite
 with_reducible ((repeat refine xc_seq ?_); refine xcR ?_)
 refine xo_mv rfl rfl rfl ?_
 refine xo_mv rfl rfl rfl ?_
 refine xo_call (fs := []) (cs := []) rfl rfl rfl first_enters rfl (fun w1 hw1 => (first_calls p g cs eg b cap ys w1 (okM ms) (fun x hx W hW => ⟨⟨(hrows x hx).1.below (below_step hw1.kx.below hW), (hrows x hx).2⟩, h8 x hx⟩) hyl2 (hsA.below hw1.kx.below) (hpA.below hw1.kx.below)).mono ?_)
 rintro e w2 ⟨⟨t, rfl⟩, hb⟩
 refine ⟨_, _, rfl, hw1.below hb, ?_⟩
 clear hb hw1
 refine xo_mv rfl rfl rfl ?_
 refine xo_ext rfl rfl rfl rfl ?_
 refine xo_ext rfl rfl rfl rfl ?_
 refine xo_asg rfl rfl rfl ?_
 refine xo_asg rfl rfl rfl ?_
 with_reducible (refine xo_nil ?_; (repeat (first | refine xqT ?_ | refine xqB ?_ | refine xqS ?_)))
 have hfx : ∀ x, (ys.find? fun x => p x.l).getD zSet = x → RowOf marV 7 zMar wA x.A x.l ∧ x.l.length ≤ 8 ∧ idsL x.l = fewestL p (allSets ms) := by
   rintro x rfl
   rw [List.find?_map] at hbest
   rw [← hbest]
   cases hf : ys.find? fun x => p x.l with
   | none =>
     have hf' : ys.find? (p ∘ fun x => x.l) = none := hf
     rw [hf']
     exact ⟨fun k hk => absurd hk (Nat.not_lt_zero _), Nat.zero_le _, rfl⟩
   | some x =>
     have hf' : ys.find? (p ∘ fun x => x.l) = some x := hf
     rw [hf']
     have hx := List.mem_of_find?_eq_some hf
     exact ⟨(hrows x hx).1, h8 x hx, rfl⟩
 obtain ⟨hrx, hx8, hidx⟩ := hfx _ rfl
 generalize (ys.find? fun x => p x.l).getD zSet = x at hrx hx8 hidx
 obtain ⟨xA, xC, xl⟩ := x
 rw [← hidx]
 simp only at hrx hx8
 have hil : (idsL xl).length = xl.length := by simp [idsL]
 with_reducible ((repeat refine xc_seq ?_); refine xcR ?_)
 refine xo_asg rfl rfl rfl ?_
 with_reducible (refine xo_nil ?_; (repeat (first | refine xqT ?_ | refine xqB ?_ | refine xqS ?_)); (repeat refine xc_seq ?_); refine xcR ?_)
 refine xo_mv rfl rfl rfl ?_
 refine xo_len T_ (len := xl.length) rfl rfl rfl rfl ?_
 refine xo_mv rfl rfl rfl ?_
 with_reducible (refine xo_nil ?_; (repeat (first | refine xqT ?_ | refine xqB ?_ | refine xqS ?_)); (repeat refine xc_seq ?_); refine xc_block ?_)
 refine xc_loop (γ := Nat × RowR) (fun q => q.1 ≤ xl.length ∧ (q.2 = none → q.1 = 0)) (fun q => [(7, .pointer (some ⟨b7, 0, none⟩)), (10, valR q.2 q.1), (39, .slice xA xl.length xC), (40, .int .i64 (xl.length : Int)), (41, .int .i64 (q.1 : Int))])
   (fun q => hpR 3 1 q.2 q.1 (((idsL xl).take q.1).map (.int .i64)) ++ []) (fun q => xl.length - q.1) (0, none) ⟨Nat.zero_le _, fun _ => rfl⟩ ⟨rfl, rfl, rfl, rfl, rfl, trivial⟩ (List.nil_sublist _) ?_
 rintro ⟨k, rr⟩ ⟨hk, hrr⟩
 have hk : k ≤ xl.length := hk
 have hrr : rr = none → k = 0 := hrr
 with_reducible ((repeat refine xc_seq ?_); refine xcR ?_)
 refine xo_lss rfl rfl rfl rfl ?_
 with_reducible (refine xo_nil ?_; (repeat (first | refine xqT ?_ | refine xqB ?_ | refine xqS ?_)); (repeat refine xc_seq ?_))
 refine xc_cond rfl (fun h => ?_) (fun h => ?_)
 · have hlt : k < xl.length := by have := of_decide_eq_true h; omega
   obtain ⟨ad, rfl, hRm⟩ := hrx k hlt
   have hst : (idsL xl).take (k + 1) = (idsL xl).take k ++ [(xl.getD k zMar).f0] := by
     rw [List.take_add_one]
     unfold idsL
     rw [List.getElem?_map, List.getElem?_eq_getElem hlt]
     simp [List.getD_eq_getElem?_getD, List.getElem?_eq_getElem hlt]
   have htl : ((idsL xl).take k).length = k := by rw [List.length_take, hil]; omega
   generalize xl.getD k zMar = m at hRm hst
   with_reducible (refine xc_skip ?_; (repeat (first | refine xqT ?_ | refine xqB ?_ | refine xqS ?_)); (repeat refine xc_seq ?_); refine xc_block ?_; (repeat refine xc_seq ?_); refine xcR ?_)
   refine xo_ia T_ rfl rfl rfl rfl rfl ⟨by omega, by omega⟩ rfl ?_
   refine xo_loadRN T_ rfl rfl rfl hRm rfl rfl ?_
   refine xo_alloc T_ rfl rfl rfl rfl (fun b12 => ?_)
   refine xo_store T_ rfl rfl rfl rfl (by repeat first | exact memH | apply memT | apply memA) rfl rfl rfl rfl (by repeat (first | exact Upd.head | apply Upd.tail | apply Upd.app)) rfl ?_
   with_reducible (refine xo_nil ?_; (repeat (first | refine xqT ?_ | refine xqB ?_ | refine xqS ?_)); (repeat refine xc_seq ?_); refine xcR ?_)
   refine xo_mv rfl rfl rfl ?_
   refine xo_loadR0 T_ rfl rfl rfl hb7A rfl ?_
   refine xo_loadN T_ rfl rfl rfl (by repeat first | exact memH | apply memT | apply memA) rfl rfl ?_
   refine xo_callB (fs := []) (cs := []) rfl rfl rfl Q.number_enters rfl (fun w1 hw1 => (Q.number_calls m w1).mono fun e w' ⟨h1, h2⟩ => ⟨h1, h2.kx.below⟩) ?_
   refine xo_bs1 T_ rfl rfl rfl rfl rfl rfl rfl rfl (fun b49 => ?_)
   refine xo_less (η' := (b49, true, cel [.int .i64 m.f0] 3) :: (hpR 3 1 rr k (((idsL xl).take k).map (.int .i64)) ++ [])) (List.Sublist.cons_cons _ (List.sublist_cons_self _ _)) ?_
   refine xo_app TR_ rfl rfl rfl rfl rfl rfl rfl rfl (by rw [List.length_map, htl, Nat.mul_one]) rfl rfl hrr (by omega) rfl rfl (fun r' hr' => ?_)
   refine xo_asg rfl rfl rfl ?_
   with_reducible (refine xo_nil ?_; (repeat (first | refine xqT ?_ | refine xqB ?_ | refine xqS ?_)); (repeat refine xc_seq ?_); refine xcR ?_)
   refine xo_add rfl rfl rfl (by omega) rfl ?_
   refine xo_mv rfl rfl rfl ?_
   with_reducible (refine xo_nil ?_; (repeat (first | refine xqT ?_ | refine xqB ?_ | refine xqS ?_)))
   exact xq_again _ _ _ _ _ (k + 1, r') ⟨hlt, fun q => absurd q hr'⟩ (by simp only; omega) ⟨rfl, rfl, rfl, rfl, rfl, trivial⟩ (by rw [hst, List.map_append]; exact List.Sublist.refl _)
 have hge : k = xl.length := by have := of_decide_eq_false h; omega
 subst hge
 rw [List.take_of_length_le (by omega), ← hil]
 with_reducible (refine xc_exit ?_; (repeat (first | refine xq_blockX ?_ | refine xq_thenE ?_ | refine xq_blockE rfl ?_ | refine xq_scopeE ?_)); (repeat (first | refine xqT ?_ | refine xqB ?_ | refine xqS ?_)); (repeat refine xc_seq ?_); refine xcR ?_)
 refine xo_mv rfl rfl rfl ?_
 refine xo_asg rfl rfl rfl ?_
 with_reducible (refine xo_nil ?_; (repeat (first | refine xqT ?_ | refine xqB ?_ | refine xqS ?_)); (repeat refine xc_seq ?_); refine xc_ret ?_; (repeat (first | refine xq_thenR ?_ | refine xq_blockR ?_ | refine xq_scopeR ?_)))
 refine xq_ret1 rfl rfl fun w' hw => ⟨rr, rfl, (RowAt.of hw (fun q => by have := hrr q; exact List.eq_nil_of_length_eq_zero (by omega))).mono hbA.size, below_step hbA hw.kx.below⟩
theorem fewest_enters : ∀ args w, (callFunc 37 args).run Tryz.prog w = .ok (.enter 37 args) w := enters_of Tryz.func37 (by kernel_rfl) rfl
theorem ids_of {R : Int} : ∀ {ms : List MarT} {last : Int}, -1 ≤ last → marksF R last ms = true → ∀ m ∈ ms, 0 ≤ m.f0 ∧ m.f0 ≤ 9999
 | [], _, _, _, m, hm => by cases hm
 | x :: ms, last, hl, h, m, hm => by
   simp only [marksF, Bool.and_eq_true] at h
   obtain ⟨⟨⟨⟨h1, h2⟩, h3⟩, h4⟩, h5⟩ := h
   have q1 := inF_iff.1 h1
   rcases List.mem_cons.1 hm with rfl | hm
   · omega
   · exact ids_of (last := x.f0) (by omega) h5 m hm
theorem whyF_calls (bs bp bq : Nat) (R : Nat) (E : Int) (gs : List GatT) (B : Option Addr) (c2 : Nat) (ms : List MarT) (room : Nat) (w : World) (hs : SiteOK w bs R E gs B ms.length c2) (hm8 : ms.length ≤ 8) (hmk : ∀ m ∈ ms, MarkOK m) (hroom : room < 6)
   (h1 : RO w XNone ⟨bp, 0, none⟩ [.pointer (some ⟨bs, 0, none⟩)]) (h2 : RO w XNone ⟨bq, 0, none⟩ [.int .i64 (room : Int)]) : AsksS Tryz.prog w 38 [.pointer (some ⟨bp, 0, none⟩), .pointer (some ⟨bq, 0, none⟩)] (fun l => !canF E R gs room l) (okM ms) := by
 rintro x W hW ⟨⟨hx1, hx2⟩, hx8⟩
 have h1 := h1.below hW
 have h2 := h2.below hW
 have hs := hs.below hW
 refine x_calls (X := XNone) (vs := [.slice x.A x.l.length x.C, .pointer (some ⟨bp, 0, none⟩), .pointer (some ⟨bq, 0, none⟩)]) Tryz.func38 rfl rfl rfl ?_
 with_reducible ((repeat refine xc_seq ?_); refine xcR ?_)
 refine xo_asg rfl rfl rfl ?_
 with_reducible (refine xo_nil ?_; (repeat (first | refine xqT ?_ | refine xqB ?_ | refine xqS ?_)); (repeat refine xc_seq ?_); refine xcR ?_)
 refine xo_loadR0 T_ rfl rfl rfl h1 rfl ?_
 refine xo_loadR0 T_ rfl rfl rfl h2 rfl ?_
 refine xo_mv rfl rfl rfl ?_
 refine xo_callB (fs := []) (cs := []) rfl rfl rfl can_enters rfl (fun w1 hw1 => can_calls bs R E gs B x.A ms.length c2 x.C x.l room w1 (hs.below hw1.kx.below) (hx1.below hw1.kx.below) hx8 (fun m hm => hmk m (hx2 m hm)) hroom) ?_
 refine xo_notOp rfl rfl rfl ?_
 refine xo_asg rfl rfl rfl ?_
 with_reducible (refine xo_nil ?_; (repeat (first | refine xqT ?_ | refine xqB ?_ | refine xqS ?_)); (repeat refine xc_seq ?_); refine xc_ret ?_; (repeat (first | refine xq_thenR ?_ | refine xq_blockR ?_ | refine xq_scopeR ?_)))
 exact xq_ret1 rfl rfl fun w' hw => ⟨rfl, hw.kx.below⟩
theorem whyF_enters : ∀ args w, (callFunc 38 args).run Tryz.prog w = .ok (.enter 38 args) w := enters_of Tryz.func38 (by kernel_rfl) rfl
theorem againstF_calls (bs bp : Nat) (R : Nat) (E : Int) (gs : List GatT) (B : Option Addr) (c2 : Nat) (ms : List MarT) (w : World) (hs : SiteOK w bs R E gs B ms.length c2) (hm8 : ms.length ≤ 8) (hmk : ∀ m ∈ ms, MarkOK m)
   (h1 : RO w XNone ⟨bp, 0, none⟩ [.pointer (some ⟨bs, 0, none⟩)]) : AsksS Tryz.prog w 47 [.pointer (some ⟨bp, 0, none⟩)] (fun l => decide (((roomsN E R gs l).length : Int) = 0)) (okM ms) := by
 rintro x W hW ⟨⟨hx1, hx2⟩, hx8⟩
 have h1 := h1.below hW
 have hs := hs.below hW
 refine x_calls (X := XNone) (vs := [.slice x.A x.l.length x.C, .pointer (some ⟨bp, 0, none⟩)]) Tryz.func47 rfl rfl rfl ?_
 with_reducible ((repeat refine xc_seq ?_); refine xcR ?_)
 refine xo_asg rfl rfl rfl ?_
 with_reducible (refine xo_nil ?_; (repeat (first | refine xqT ?_ | refine xqB ?_ | refine xqS ?_)); (repeat refine xc_seq ?_); refine xcR ?_)
 refine xo_loadR0 T_ rfl rfl rfl h1 rfl ?_
 refine xo_mv rfl rfl rfl ?_
 refine xo_call (fs := []) (cs := []) rfl rfl rfl rooms_enters rfl (fun w1 hw1 => (rooms_calls bs R E gs B x.A ms.length c2 x.C x.l w1 (hs.below hw1.kx.below) (hx1.below hw1.kx.below) hx8 (fun m hm => hmk m (hx2 m hm))).mono ?_)
 rintro e w2 ⟨r, rfl, hrw, hb⟩
 have h11 := hrw.1
 refine ⟨_, _, rfl, hw1.below hb, ?_⟩
 clear hrw hb hw1
 refine xo_len T_ rfl (show _ = some (Value.slice (valA r) (roomsN E R gs x.l).length (valC r)) from congrArg some (valR_eq (fun q => by have := h11 q; simpa [intsN] using this))) rfl rfl ?_
 refine xo_eql rfl rfl rfl rfl ?_
 refine xo_asg rfl rfl rfl ?_
 with_reducible (refine xo_nil ?_; (repeat (first | refine xqT ?_ | refine xqB ?_ | refine xqS ?_)); (repeat refine xc_seq ?_); refine xc_ret ?_; (repeat (first | refine xq_thenR ?_ | refine xq_blockR ?_ | refine xq_scopeR ?_)))
 exact xq_ret1 rfl rfl fun w' hw => ⟨rfl, hw.kx.below⟩
theorem againstF_enters : ∀ args w, (callFunc 47 args).run Tryz.prog w = .ok (.enter 47 args) w := enters_of Tryz.func47 (by kernel_rfl) rfl
/-! ### Why -/
def whyC (R E : Int) (gs : List GatT) (ms : List MarT) (room : Int) : Int := if sceneF R E gs ms = true then (if roomOK R room = true then (if canF E R.toNat gs room.toNat ms = true then 8 else 0) else 2) else 90
def whyL (R E : Int) (gs : List GatT) (ms : List MarT) (room : Int) : List Int := if whyC R E gs ms room = 0 then fewestL (fun l => !canF E R.toNat gs room.toNat l) (allSets ms) else []
set_option maxHeartbeats 8000000 in
theorem Why_calls (R E : Int) (A B : Option Addr) (c c2 : Nat) (gs : List GatT) (ms : List MarT) (room : Int) (w : World) (hs : SceneAt w A B gs ms) :
   Calls Tryz.prog 14 #[.agg (scnV R A gs.length c E B ms.length c2).toArray, .int .i64 room] w fun e w' => ∃ rr : RowR, e = .returned (.tuple #[valR rr (whyL R E gs ms room).length, .int .i64 (whyC R E gs ms room)]) ∧ RowAt 3 w.heap.size w' rr (whyL R E gs ms room) ∧ Below w.heap.size w w' := by
 refine x_calls (X := XNone) Tryz.func14 rfl rfl rfl ?_
 with_reducible ((repeat refine xc_seq ?_); refine xcR ?_)
 refine xo_box rfl rfl rfl rfl (fun b2 => ?_)
 refine xo_box rfl rfl rfl rfl (fun b3 => ?_)
 refine xo_asg rfl rfl rfl ?_
 refine xo_asg rfl rfl rfl ?_
 with_reducible (refine xo_nil ?_; (repeat (first | refine xqT ?_ | refine xqB ?_ | refine xqS ?_)))
 cases hsc : sceneF R E gs ms
 · have e1 : whyC R E gs ms room = 90 := by simp [whyC, hsc]
   have e2 : whyL R E gs ms room = [] := by rw [whyL, if_neg (by rw [e1]; decide)]
   with_reducible ((repeat refine xc_seq ?_); refine xcR ?_)
   refine xo_loadN T_ rfl rfl rfl (by repeat first | exact memH | apply memT | apply memA) rfl rfl ?_
   refine xo_load0 T_ rfl rfl rfl (by repeat first | exact memH | apply memT | apply memA) rfl rfl ?_
   refine xo_callB (fs := []) (cs := []) rfl rfl rfl roomed_enters rfl (fun w1 hw1 => roomed_no R E A B c c2 gs ms room w1 (hs.below hw1.kx.below).gates (hs.below hw1.kx.below).marks hs.bytes hsc) ?_
   refine xo_mv rfl rfl rfl ?_
   refine xo_ext rfl rfl rfl rfl ?_
   refine xo_ext rfl rfl rfl rfl ?_
   refine xo_alloc T_ rfl rfl rfl rfl (fun b6 => ?_)
   refine xo_store T_ rfl rfl rfl rfl (by repeat first | exact memH | apply memT | apply memA) rfl rfl rfl rfl (by repeat (first | exact Upd.head | apply Upd.tail | apply Upd.app)) rfl ?_
   refine xo_asg rfl rfl rfl ?_
   with_reducible (refine xo_nil ?_; (repeat (first | refine xqT ?_ | refine xqB ?_ | refine xqS ?_)); (repeat refine xc_seq ?_); refine xcR ?_)
   refine xo_mv rfl rfl rfl ?_
   refine xo_neq rfl rfl rfl rfl ?_
   with_reducible (refine xo_nil ?_; (repeat (first | refine xqT ?_ | refine xqB ?_ | refine xqS ?_)); (repeat refine xc_seq ?_))
   refine xc_condT rfl ?_
   with_reducible ((repeat refine xc_seq ?_); refine xcR ?_)
   refine xo_mv rfl rfl rfl ?_
   refine xo_asg rfl rfl rfl ?_
   refine xo_asg rfl rfl rfl ?_
   with_reducible (refine xo_nil ?_; (repeat (first | refine xqT ?_ | refine xqB ?_ | refine xqS ?_)); (repeat refine xc_seq ?_); refine xc_ret ?_; (repeat (first | refine xq_thenR ?_ | refine xq_blockR ?_ | refine xq_scopeR ?_)))
   exact xq_ret2 rfl rfl rfl fun w' hw => ⟨none, by rw [e1, e2]; rfl, by rw [e2]; exact ⟨fun _ => rfl, fun p hp => by cases hp⟩, hw.kx.below⟩
 cases hrm : roomOK R room
 · have e1 : whyC R E gs ms room = 2 := by simp [whyC, hsc, hrm]
   have e2 : whyL R E gs ms room = [] := by rw [whyL, if_neg (by rw [e1]; decide)]
   with_reducible ((repeat refine xc_seq ?_); refine xcR ?_)
   refine xo_loadN T_ rfl rfl rfl (by repeat first | exact memH | apply memT | apply memA) rfl rfl ?_
   refine xo_load0 T_ rfl rfl rfl (by repeat first | exact memH | apply memT | apply memA) rfl rfl ?_
   refine xo_callB (fs := []) (cs := []) rfl rfl rfl roomed_enters rfl (fun w1 hw1 => roomed_arg R E A B c c2 gs ms room w1 (hs.below hw1.kx.below).gates (hs.below hw1.kx.below).marks hs.bytes hsc hrm) ?_
   refine xo_mv rfl rfl rfl ?_
   refine xo_ext rfl rfl rfl rfl ?_
   refine xo_ext rfl rfl rfl rfl ?_
   refine xo_alloc T_ rfl rfl rfl rfl (fun b6 => ?_)
   refine xo_store T_ rfl rfl rfl rfl (by repeat first | exact memH | apply memT | apply memA) rfl rfl rfl rfl (by repeat (first | exact Upd.head | apply Upd.tail | apply Upd.app)) rfl ?_
   refine xo_asg rfl rfl rfl ?_
   with_reducible (refine xo_nil ?_; (repeat (first | refine xqT ?_ | refine xqB ?_ | refine xqS ?_)); (repeat refine xc_seq ?_); refine xcR ?_)
   refine xo_mv rfl rfl rfl ?_
   refine xo_neq rfl rfl rfl rfl ?_
   with_reducible (refine xo_nil ?_; (repeat (first | refine xqT ?_ | refine xqB ?_ | refine xqS ?_)); (repeat refine xc_seq ?_))
   refine xc_condT rfl ?_
   with_reducible ((repeat refine xc_seq ?_); refine xcR ?_)
   refine xo_mv rfl rfl rfl ?_
   refine xo_asg rfl rfl rfl ?_
   refine xo_asg rfl rfl rfl ?_
   with_reducible (refine xo_nil ?_; (repeat (first | refine xqT ?_ | refine xqB ?_ | refine xqS ?_)); (repeat refine xc_seq ?_); refine xc_ret ?_; (repeat (first | refine xq_thenR ?_ | refine xq_blockR ?_ | refine xq_scopeR ?_)))
   exact xq_ret2 rfl rfl rfl fun w' hw => ⟨none, by rw [e1, e2]; rfl, by rw [e2]; exact ⟨fun _ => rfl, fun p hp => by cases hp⟩, hw.kx.below⟩
 have e1 : whyC R E gs ms room = if canF E R.toNat gs room.toNat ms = true then 8 else 0 := by simp [whyC, hsc, hrm]
 unfold whyL
 rw [e1]
 clear e1
 obtain ⟨hR6, hE6, hG, hm8, hmk⟩ := sceneF_ok hsc
 have hmk' := marks_ok hR6 hmk
 have hids : IdsOK ms := ⟨hm8, ids_of (by omega) hmk⟩
 clear hmk
 obtain ⟨n, rfl, hn1, hn6⟩ := nat_of hR6
 obtain ⟨r, rfl, hr⟩ := roomOK_nat hn6 hrm
 have en : ((n : Nat) : Int).toNat = n := rfl
 have er : ((r : Nat) : Int).toNat = r := rfl
 rw [en, er]
 with_reducible ((repeat refine xc_seq ?_); refine xcR ?_)
 refine xo_loadN T_ rfl rfl rfl (by repeat first | exact memH | apply memT | apply memA) rfl rfl ?_
 refine xo_load0 T_ rfl rfl rfl (by repeat first | exact memH | apply memT | apply memA) rfl rfl ?_
 refine xo_call (fs := []) (cs := []) rfl rfl rfl roomed_enters rfl (fun w1 hw1 => (roomed_yes n E A B c c2 gs ms r w1 (hs.below hw1.kx.below).gates (hs.below hw1.kx.below).marks hs.bytes hsc hrm).mono ?_)
 rintro e w2 ⟨bs, pre, fb, fc, wb, wc, rfl, hp, hz⟩
 rw [en] at hz
 refine ⟨_, _, rfl, (hw1.join hz (fun e he => (siteH_own e he).1)).deflag, ?_⟩
 clear hz hw1
 refine xo_mv rfl rfl rfl ?_
 refine xo_ext rfl rfl rfl rfl ?_
 refine xo_ext rfl rfl rfl rfl ?_
 refine xo_alloc T_ rfl rfl rfl rfl (fun b6 => ?_)
 refine xo_store T_ rfl rfl rfl rfl (by repeat first | exact memH | apply memT | apply memA) rfl rfl rfl rfl (by repeat (first | exact Upd.head | apply Upd.tail | apply Upd.app)) rfl ?_
 refine xo_asg rfl rfl rfl ?_
 with_reducible (refine xo_nil ?_; (repeat (first | refine xqT ?_ | refine xqB ?_ | refine xqS ?_)); (repeat refine xc_seq ?_); refine xcR ?_)
 refine xo_mv rfl rfl rfl ?_
 refine xo_neq rfl rfl rfl rfl ?_
 with_reducible (refine xo_nil ?_; (repeat (first | refine xqT ?_ | refine xqB ?_ | refine xqS ?_)); (repeat refine xc_seq ?_))
 refine xc_condF rfl ?_
 with_reducible (refine xc_skip ?_; (repeat (first | refine xqT ?_ | refine xqB ?_ | refine xqS ?_)))
 refine xc_anew fun wA hwA => ?_
 have hbA := hwA.kx.below
 have hsA := siteOK_of (pre := pre) (c := c) (A := A) (nm := ms.length) (c2 := c2) (B := B) (bs := bs) (fb := fb) (fc := fc) (rw_ := some (wb, wc)) ⟨hn1, hn6⟩ hE6 hG (hs.below hbA).glob (hwA.inW fun e he => List.mem_cons_of_mem _ (List.mem_append_left _ (List.mem_map.2 ⟨e, he, rfl⟩))) hp
 have h6 := hwA.ro (b := b6) (wr := true) (t := 74) (List.Mem.head _)
 have h3 := hwA.ro (b := b3) (wr := true) (t := 3) (cs := [.int .i64 (r : Int)]) (by repeat first | exact memH | apply memT | apply memA)
 have h2 := hwA.ro (b := b2) (wr := true) (t := 25) (cs := scnV n A gs.length c E B ms.length c2) (by repeat first | exact memH | apply memT | apply memA)
 have hMA := mar_row (hs.below hbA).marks
 refine xc_slots [(2, .pointer (some ⟨b2, 0, none⟩)), (3, .pointer (some ⟨b3, 0, none⟩)), (6, .pointer (some ⟨b6, 0, none⟩))] ⟨rfl, rfl, rfl, trivial⟩ ?_
 clear hwA
 cases hc : canF E n gs r ms
 · with_reducible repeat refine xc_seq ?_
   with_reducible refine xcR ?_
   refine xo_loadR0 T_ rfl rfl rfl h6 rfl ?_
   refine xo_loadR0 T_ rfl rfl rfl h3 rfl ?_
   refine xo_fa T_ rfl rfl rfl rfl rfl ?_
   refine xo_loadR0 T_ rfl rfl rfl (h2.lit (j := 3) rfl) rfl ?_
   refine xo_callB (fs := []) (cs := []) rfl rfl rfl can_enters rfl (fun w1 hw1 => can_calls bs n E gs B B ms.length c2 c2 ms r w1 (hsA.below hw1.kx.below) (hMA.below hw1.kx.below) hm8 hmk' (by omega)) ?_
   refine xo_as (i := 21) rfl (congrArg Value.bool hc) ?_
   with_reducible (refine xo_nil ?_; (repeat (first | refine xqT ?_ | refine xqB ?_ | refine xqS ?_)); (repeat refine xc_seq ?_))
   refine xc_condF rfl ?_
   with_reducible (refine xc_skip ?_; (repeat (first | refine xqT ?_ | refine xqB ?_ | refine xqS ?_)); (repeat refine xc_seq ?_); refine xcR ?_)
   refine xo_loadR0 T_ rfl rfl rfl h6 rfl ?_
   refine xo_mkf rfl rfl rfl rfl ?_
   refine xo_call (fs := []) (cs := []) rfl rfl rfl fewest_enters rfl (fun w1 hw1 => (fewest_calls (fun l => !canF E n gs r l) 38 [.pointer (some ⟨b6, 0, none⟩), .pointer (some ⟨b3, 0, none⟩)] whyF_enters bs n E gs B c2 ms w1 (hsA.below hw1.kx.below) (hMA.below hw1.kx.below) hids (fun x W hW hx => whyF_calls bs b6 b3 n E gs B c2 ms r wA hsA hm8 hmk' (by omega) h6 h3 x W (below_step hw1.kx.below hW) hx)).mono ?_)
   rintro e w2 ⟨rr, rfl, hrw, hb⟩
   have h11 := hrw.1
   refine ⟨_, _, rfl, hw1.row hb hrw, ?_⟩
   clear hrw hb hw1
   refine xo_asg rfl rfl rfl ?_
   refine xo_asg rfl rfl rfl ?_
   with_reducible (refine xo_nil ?_; (repeat (first | refine xqT ?_ | refine xqB ?_ | refine xqS ?_)); (repeat refine xc_seq ?_); refine xc_ret ?_; (repeat (first | refine xq_thenR ?_ | refine xq_blockR ?_ | refine xq_scopeR ?_)))
   exact xq_ret2 rfl rfl rfl fun w' hw => ⟨rr, rfl, (RowAt.of hw h11).mono hbA.size, below_step hbA hw.kx.below⟩
 · with_reducible repeat refine xc_seq ?_
   with_reducible refine xcR ?_
   refine xo_loadR0 T_ rfl rfl rfl h6 rfl ?_
   refine xo_loadR0 T_ rfl rfl rfl h3 rfl ?_
   refine xo_fa T_ rfl rfl rfl rfl rfl ?_
   refine xo_loadR0 T_ rfl rfl rfl (h2.lit (j := 3) rfl) rfl ?_
   refine xo_callB (fs := []) (cs := []) rfl rfl rfl can_enters rfl (fun w1 hw1 => can_calls bs n E gs B B ms.length c2 c2 ms r w1 (hsA.below hw1.kx.below) (hMA.below hw1.kx.below) hm8 hmk' (by omega)) ?_
   refine xo_as (i := 21) rfl (congrArg Value.bool hc) ?_
   with_reducible (refine xo_nil ?_; (repeat (first | refine xqT ?_ | refine xqB ?_ | refine xqS ?_)); (repeat refine xc_seq ?_))
   refine xc_condT rfl ?_
   with_reducible ((repeat refine xc_seq ?_); refine xcR ?_)
   refine xo_asg rfl rfl rfl ?_
   refine xo_asg rfl rfl rfl ?_
   with_reducible (refine xo_nil ?_; (repeat (first | refine xqT ?_ | refine xqB ?_ | refine xqS ?_)); (repeat refine xc_seq ?_); refine xc_ret ?_; (repeat (first | refine xq_thenR ?_ | refine xq_blockR ?_ | refine xq_scopeR ?_)))
   exact xq_ret2 rfl rfl rfl fun w' hw => ⟨none, rfl, ⟨fun _ => rfl, fun p hp => by cases hp⟩, below_step hbA hw.kx.below⟩
theorem Why_enters : ∀ args w, (callFunc 14 args).run Tryz.prog w = .ok (.enter 14 args) w := enters_of Tryz.func14 (by kernel_rfl) rfl
/-! ### Against -/
def againstL (R E : Int) (gs : List GatT) (ms : List MarT) : List Int := if sceneF R E gs ms = true ∧ (roomsN E R.toNat gs ms).length = 0 then fewestL (fun l => decide (((roomsN E R.toNat gs l).length : Int) = 0)) (allSets ms) else []
set_option maxHeartbeats 8000000 in
theorem Against_calls (R E : Int) (A B : Option Addr) (c c2 : Nat) (gs : List GatT) (ms : List MarT) (w : World) (hs : SceneAt w A B gs ms) :
   Calls Tryz.prog 16 #[.agg (scnV R A gs.length c E B ms.length c2).toArray] w fun e w' => ∃ rr : RowR, e = .returned (.tuple #[valR rr (againstL R E gs ms).length, .int .i64 (checkF R E gs ms)]) ∧ RowAt 3 w.heap.size w' rr (againstL R E gs ms) ∧ Below w.heap.size w w' := by
 refine x_calls (X := XNone) Tryz.func16 rfl rfl rfl ?_
 with_reducible ((repeat refine xc_seq ?_); refine xcR ?_)
 refine xo_box rfl rfl rfl rfl (fun b1 => ?_)
 refine xo_asg rfl rfl rfl ?_
 refine xo_asg rfl rfl rfl ?_
 with_reducible (refine xo_nil ?_; (repeat (first | refine xqT ?_ | refine xqB ?_ | refine xqS ?_)))
 cases hsc : sceneF R E gs ms
 · have e1 := check_no hsc
   have e2 : againstL R E gs ms = [] := by rw [againstL, if_neg (by simp [hsc])]
   with_reducible ((repeat refine xc_seq ?_); refine xcR ?_)
   refine xo_loadN T_ rfl rfl rfl (by repeat first | exact memH | apply memT | apply memA) rfl rfl ?_
   refine xo_callB (fs := []) (cs := []) rfl rfl rfl open_enters rfl (fun w1 hw1 => open_no R E A B c c2 gs ms w1 (hs.below hw1.kx.below).gates (hs.below hw1.kx.below).marks hs.bytes hsc) ?_
   refine xo_mv rfl rfl rfl ?_
   refine xo_ext rfl rfl rfl rfl ?_
   refine xo_ext rfl rfl rfl rfl ?_
   refine xo_alloc T_ rfl rfl rfl rfl (fun b4 => ?_)
   refine xo_store T_ rfl rfl rfl rfl (by repeat first | exact memH | apply memT | apply memA) rfl rfl rfl rfl (by repeat (first | exact Upd.head | apply Upd.tail | apply Upd.app)) rfl ?_
   refine xo_asg rfl rfl rfl ?_
   with_reducible (refine xo_nil ?_; (repeat (first | refine xqT ?_ | refine xqB ?_ | refine xqS ?_)); (repeat refine xc_seq ?_); refine xcR ?_)
   refine xo_mv rfl rfl rfl ?_
   refine xo_neq rfl rfl rfl rfl ?_
   with_reducible (refine xo_nil ?_; (repeat (first | refine xqT ?_ | refine xqB ?_ | refine xqS ?_)); (repeat refine xc_seq ?_))
   refine xc_condT rfl ?_
   with_reducible ((repeat refine xc_seq ?_); refine xcR ?_)
   refine xo_mv rfl rfl rfl ?_
   refine xo_asg rfl rfl rfl ?_
   refine xo_asg rfl rfl rfl ?_
   with_reducible (refine xo_nil ?_; (repeat (first | refine xqT ?_ | refine xqB ?_ | refine xqS ?_)); (repeat refine xc_seq ?_); refine xc_ret ?_; (repeat (first | refine xq_thenR ?_ | refine xq_blockR ?_ | refine xq_scopeR ?_)))
   exact xq_ret2 rfl rfl rfl fun w' hw => ⟨none, by rw [e1, e2]; rfl, by rw [e2]; exact ⟨fun _ => rfl, fun p hp => by cases hp⟩, hw.kx.below⟩
 have e1 : checkF R E gs ms = 0 := by rw [checkF, if_pos hsc]
 rw [e1]
 clear e1
 have e2 : againstL R E gs ms = if (roomsN E R.toNat gs ms).length = 0 then fewestL (fun l => decide (((roomsN E R.toNat gs l).length : Int) = 0)) (allSets ms) else [] := by
   unfold againstL
   simp [hsc]
 rw [e2]
 clear e2
 obtain ⟨hR6, hE6, hG, hm8, hmk⟩ := sceneF_ok hsc
 have hmk' := marks_ok hR6 hmk
 have hids : IdsOK ms := ⟨hm8, ids_of (by omega) hmk⟩
 clear hmk
 obtain ⟨n, rfl, hn1, hn6⟩ := nat_of hR6
 have en : ((n : Nat) : Int).toNat = n := rfl
 rw [en]
 with_reducible ((repeat refine xc_seq ?_); refine xcR ?_)
 refine xo_loadN T_ rfl rfl rfl (by repeat first | exact memH | apply memT | apply memA) rfl rfl ?_
 refine xo_call (fs := []) (cs := []) rfl rfl rfl open_enters rfl (fun w1 hw1 => (open_yes n E A B c c2 gs ms w1 (hs.below hw1.kx.below).gates (hs.below hw1.kx.below).marks hs.bytes hsc).mono ?_)
 rintro e w2 ⟨bs, pre, fb, fc, wb, wc, rfl, hp, hz⟩
 rw [en] at hz
 refine ⟨_, _, rfl, (hw1.join hz (fun e he => (siteH_own e he).1)).deflag, ?_⟩
 clear hz hw1
 refine xo_mv rfl rfl rfl ?_
 refine xo_ext rfl rfl rfl rfl ?_
 refine xo_ext rfl rfl rfl rfl ?_
 refine xo_alloc T_ rfl rfl rfl rfl (fun b4 => ?_)
 refine xo_store T_ rfl rfl rfl rfl (by repeat first | exact memH | apply memT | apply memA) rfl rfl rfl rfl (by repeat (first | exact Upd.head | apply Upd.tail | apply Upd.app)) rfl ?_
 refine xo_asg rfl rfl rfl ?_
 with_reducible (refine xo_nil ?_; (repeat (first | refine xqT ?_ | refine xqB ?_ | refine xqS ?_)); (repeat refine xc_seq ?_); refine xcR ?_)
 refine xo_mv rfl rfl rfl ?_
 refine xo_neq rfl rfl rfl rfl ?_
 with_reducible (refine xo_nil ?_; (repeat (first | refine xqT ?_ | refine xqB ?_ | refine xqS ?_)); (repeat refine xc_seq ?_))
 refine xc_condF rfl ?_
 with_reducible (refine xc_skip ?_; (repeat (first | refine xqT ?_ | refine xqB ?_ | refine xqS ?_)))
 refine xc_anew fun wA hwA => ?_
 have hbA := hwA.kx.below
 have hsA := siteOK_of (pre := pre) (c := c) (A := A) (nm := ms.length) (c2 := c2) (B := B) (bs := bs) (fb := fb) (fc := fc) (rw_ := some (wb, wc)) ⟨hn1, hn6⟩ hE6 hG (hs.below hbA).glob (hwA.inW fun e he => List.mem_cons_of_mem _ (List.mem_append_left _ (List.mem_map.2 ⟨e, he, rfl⟩))) hp
 have h4 := hwA.ro (b := b4) (wr := true) (t := 74) (List.Mem.head _)
 have h1 := hwA.ro (b := b1) (wr := true) (t := 25) (cs := scnV n A gs.length c E B ms.length c2) (by repeat first | exact memH | apply memT | apply memA)
 have hMA := mar_row (hs.below hbA).marks
 refine xc_slots [(1, .pointer (some ⟨b1, 0, none⟩)), (4, .pointer (some ⟨b4, 0, none⟩))] ⟨rfl, rfl, trivial⟩ ?_
 clear hwA
 cases hc : decide ((0 : Int) < (roomsN E n gs ms).length)
 · have h0 : (roomsN E n gs ms).length = 0 := by have := of_decide_eq_false hc; omega
   rw [if_pos h0]
   with_reducible ((repeat refine xc_seq ?_); refine xcR ?_)
   refine xo_loadR0 T_ rfl rfl rfl h4 rfl ?_
   refine xo_fa T_ rfl rfl rfl rfl rfl ?_
   refine xo_loadR0 T_ rfl rfl rfl (h1.lit (j := 3) rfl) rfl ?_
   refine xo_call (fs := []) (cs := []) rfl rfl rfl rooms_enters rfl (fun w1 hw1 => (rooms_calls bs n E gs B B ms.length c2 c2 ms w1 (hsA.below hw1.kx.below) (hMA.below hw1.kx.below) hm8 hmk').mono ?_)
   rintro e w2 ⟨r, rfl, hrw, hb⟩
   have h11 := hrw.1
   refine ⟨_, _, rfl, hw1.below hb, ?_⟩
   clear hrw hb hw1
   refine xo_len T_ rfl (show _ = some (Value.slice (valA r) (roomsN E n gs ms).length (valC r)) from congrArg some (valR_eq (fun q => by have := h11 q; simpa [intsN] using this))) rfl rfl ?_
   refine xo_gtr rfl rfl rfl rfl ?_
   refine xo_as (i := 19) rfl (congrArg Value.bool hc) ?_
   with_reducible (refine xo_nil ?_; (repeat (first | refine xqT ?_ | refine xqB ?_ | refine xqS ?_)); (repeat refine xc_seq ?_))
   refine xc_condF rfl ?_
   with_reducible (refine xc_skip ?_; (repeat (first | refine xqT ?_ | refine xqB ?_ | refine xqS ?_)); (repeat refine xc_seq ?_); refine xcR ?_)
   refine xo_loadR0 T_ rfl rfl rfl h4 rfl ?_
   refine xo_mkf rfl rfl rfl rfl ?_
   refine xo_call (fs := []) (cs := []) rfl rfl rfl fewest_enters rfl (fun w1 hw1 => (fewest_calls (fun l => decide (((roomsN E n gs l).length : Int) = 0)) 47 [.pointer (some ⟨b4, 0, none⟩)] againstF_enters bs n E gs B c2 ms w1 (hsA.below hw1.kx.below) (hMA.below hw1.kx.below) hids (fun x W hW hx => againstF_calls bs b4 n E gs B c2 ms wA hsA hm8 hmk' h4 x W (below_step hw1.kx.below hW) hx)).mono ?_)
   rintro e w2 ⟨rr, rfl, hrw, hb⟩
   have h11 := hrw.1
   refine ⟨_, _, rfl, hw1.row hb hrw, ?_⟩
   clear hrw hb hw1
   refine xo_asg rfl rfl rfl ?_
   refine xo_asg rfl rfl rfl ?_
   with_reducible (refine xo_nil ?_; (repeat (first | refine xqT ?_ | refine xqB ?_ | refine xqS ?_)); (repeat refine xc_seq ?_); refine xc_ret ?_; (repeat (first | refine xq_thenR ?_ | refine xq_blockR ?_ | refine xq_scopeR ?_)))
   exact xq_ret2 rfl rfl rfl fun w' hw => ⟨rr, rfl, (RowAt.of hw h11).mono hbA.size, below_step hbA hw.kx.below⟩
 · have h0 : ¬ (roomsN E n gs ms).length = 0 := by have := of_decide_eq_true hc; omega
   rw [if_neg h0]
   with_reducible ((repeat refine xc_seq ?_); refine xcR ?_)
   refine xo_loadR0 T_ rfl rfl rfl h4 rfl ?_
   refine xo_fa T_ rfl rfl rfl rfl rfl ?_
   refine xo_loadR0 T_ rfl rfl rfl (h1.lit (j := 3) rfl) rfl ?_
   refine xo_call (fs := []) (cs := []) rfl rfl rfl rooms_enters rfl (fun w1 hw1 => (rooms_calls bs n E gs B B ms.length c2 c2 ms w1 (hsA.below hw1.kx.below) (hMA.below hw1.kx.below) hm8 hmk').mono ?_)
   rintro e w2 ⟨r, rfl, hrw, hb⟩
   have h11 := hrw.1
   refine ⟨_, _, rfl, hw1.below hb, ?_⟩
   clear hrw hb hw1
   refine xo_len T_ rfl (show _ = some (Value.slice (valA r) (roomsN E n gs ms).length (valC r)) from congrArg some (valR_eq (fun q => by have := h11 q; simpa [intsN] using this))) rfl rfl ?_
   refine xo_gtr rfl rfl rfl rfl ?_
   refine xo_as (i := 19) rfl (congrArg Value.bool hc) ?_
   with_reducible (refine xo_nil ?_; (repeat (first | refine xqT ?_ | refine xqB ?_ | refine xqS ?_)); (repeat refine xc_seq ?_))
   refine xc_condT rfl ?_
   with_reducible ((repeat refine xc_seq ?_); refine xcR ?_)
   refine xo_asg rfl rfl rfl ?_
   refine xo_asg rfl rfl rfl ?_
   with_reducible (refine xo_nil ?_; (repeat (first | refine xqT ?_ | refine xqB ?_ | refine xqS ?_)); (repeat refine xc_seq ?_); refine xc_ret ?_; (repeat (first | refine xq_thenR ?_ | refine xq_blockR ?_ | refine xq_scopeR ?_)))
   exact xq_ret2 rfl rfl rfl fun w' hw => ⟨none, rfl, ⟨fun _ => rfl, fun p hp => by cases hp⟩, below_step hbA hw.kx.below⟩
theorem Against_enters : ∀ args w, (callFunc 16 args).run Tryz.prog w = .ok (.enter 16 args) w := enters_of Tryz.func16 (by kernel_rfl) rfl
end Go.Proofs.YtommeljlfkmpjaaGreatDoor
namespace Go.Proofs.YtommeljlfkmpjaaGreatDoor
open Go.RowKit
set_option linter.unusedVariables false
set_option linter.unusedSimpArgs false
section
variable {P : Program} {ro : Option Nat} {n N : Nat} {ds : List Deferred} {w0 : World} {X : Nat → Prop} {Q : Exit → Act → World → Prop} {σ : Slots} {η : Hp} {ops rest : List Oper}
/-- both ways of a test meet here (the sequence is taken apart already) -/
theorem xc_meet2 {γ : Type} {x y : Code} (C : γ → Prop) (S : γ → Slots) (H : γ → Hp) (h1 : XC P ro n N ds w0 X (Exit.then (fun a w => ∃ g, C g ∧ SOK N ds (S g) a ∧ WOK w0 X (H g) w) Q) σ η x)
   (h2 : ∀ g, C g → XC P ro n N ds w0 X Q (S g) (H g) y) : XC P ro n N ds w0 X (Exit.then (y.wpIn (wideR ro) n P Q) Q) σ η x := fun a w ha hw => wpIn_mono (h1 a w ha hw) (by
 intro e a' w' hq
 cases e with
 | normal => obtain ⟨g, hg, h3, h4⟩ := hq; exact h2 g hg a' w' h3 h4
 | exit id => exact hq
 | goto l => exact hq
 | ret => exact hq
 | panic c => exact hq
 | outgrown => exact hq)
theorem xo_lit {i : Tmp} {b : Bool} (hb : slot i σ = some (.bool b)) (h : XO P ro n N ds w0 X Q ops σ η rest) : XO P ro n N ds w0 X Q ops σ η rest := h
end
end Go.Proofs.YtommeljlfkmpjaaGreatDoor
