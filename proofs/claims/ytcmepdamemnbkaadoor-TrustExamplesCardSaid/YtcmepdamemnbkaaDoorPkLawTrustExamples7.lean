/- maps.Keys over any map with whole-number keys: an iterator that yields its keys in some order. / trust.Recall. / trust.Rests. / trust.Causes. / ref08.Twin: the walk. / law08.TrustHolds: the walk. / law08.alive: the chapter's examples come out. / law08.alive: the walk. / SX: a drawn region that writes slots which it also reads: the old values may be read by what the writer waits for. No program in sight. / The table trust.adds, as the rows' condition lays it, and the door's own heap, which meets that condition. / law08.TrustTakes: the walk. / law08: the chapter's examples with their blocks told, and what TrustExamples makes of them. / law08: two letters more, one that withdraws and one that restores: what holds then (plain). / law08: letters in another order, with other numbers: the same is gone (plain). / ref08.Pieces, Recall answer what trust.Pieces, Recall answer. / law08: sums of moves: balances, any order (plain). / law08: letters and moves copied, more of them, parts of them; next ahead of what is known. / law08: lists that are numbered anew in place, one by one (plain). / ref08.Recall answers what trust.Recall answers; SameMoves. / law08.TrustPieces: the walk. -/
import Derived.Test.YtcmepdamemnbkaaDoorPkLawTrustExamples5
import Derived.Test.YtcmepdamemnbkaaDoorPkLawTrustExamples6
import Derived.Test.YtcmepdamemnbkaaDoorPkLawTrustExamples4
import Derived.Test.YtcmepdamemnbkaaDoorPkLawTrustExamples3
import Derived.Test.YtcmepdamemnbkaaDoorRows
import Derived.LaidLaws
import Derived.LaidHandle
import Derived.LaidMore
import Derived.ChangeVars
import Derived.ChangeShapes
namespace Go.Proofs.YtcmepdamemnbkaaDoor
open Go.RowKit
set_option linter.unusedVariables false
set_option linter.unusedSimpArgs false
theorem entsKey {es : Array MapEntry} {c : Nat} {l : List (Int × Value)} {s : List Int} (hE : Ents es c l) (hs : s = l.map (·.1)) {e : MapEntry} (he : e ∈ es.toList) : ∃ k, k ∈ s ∧ e.key = .int .i64 k := by
  have h1 : kvE e ∈ es.toList.map kvE := List.mem_map_of_mem he
  rw [hE.is] at h1
  obtain ⟨p, hp, h2⟩ := List.mem_map.1 h1
  exact ⟨p.1, by rw [hs]; exact List.mem_map.2 ⟨p, hp, rfl⟩, (congrArg Prod.fst h2).symm⟩
theorem Seen.stepM {es : Array MapEntry} {c : Nat} {l : List (Int × Value)} {seen : Array Nat} {ys : List Int} (h : Seen es seen ys) (hE : Ents es c l) {e : MapEntry} (he : e ∈ es.toList) (hns : seen.contains e.born = false) {k : Int} (hk : e.key = .int .i64 k) : Seen es (seen.push e.born) (ys ++ [k]) := by
  obtain ⟨h1, h2⟩ := h
  refine ⟨List.nodup_append.2 ⟨h1, by simp, fun a ha b hb q => ?_⟩, fun n => ?_⟩
  · simp at hb
    subst hb
    subst q
    obtain ⟨e', he', h3, h4⟩ := (h2 a).1 ha
    rw [keys_uniq hE he' he (h4.trans hk.symm)] at h3
    rw [h3] at hns
    cases hns
  · rw [List.mem_append, List.mem_singleton, h2]
    constructor
    · rintro (⟨e', he', h3, h4⟩ | rfl)
      · exact ⟨e', he', by simp at h3 ⊢; exact .inl h3, h4⟩
      · exact ⟨e, he, by simp, hk⟩
    · rintro ⟨e', he', h3, h4⟩
      simp at h3
      rcases h3 with h3 | h3
      · exact .inl ⟨e', he', by simpa using h3, h4⟩
      · right
        have hee := once_eq hE he' he h3
        subst hee
        rw [hk] at h4
        injection h4 with _ h4
        exact h4.symm
theorem seenSub {es : Array MapEntry} {c : Nat} {l : List (Int × Value)} {s : List Int} (hE : Ents es c l) (hs : s = l.map (·.1)) {seen : Array Nat} {ys : List Int} (h : Seen es seen ys) : ∀ n ∈ ys, n ∈ s := fun n hn => by
  obtain ⟨e, he, _, h4⟩ := (h.2 n).1 hn
  obtain ⟨k, hk, h5⟩ := entsKey hE hs he
  rw [h5] at h4
  injection h4 with _ h4
  rwa [← h4]
theorem seenNodup {es : Array MapEntry} {c : Nat} {l : List (Int × Value)} {s : List Int} (hE : Ents es c l) (hs : s = l.map (·.1)) : s.Nodup := by rw [hs]; exact hE.keys
theorem seenLen {es : Array MapEntry} {c : Nat} {l : List (Int × Value)} {s : List Int} (hE : Ents es c l) (hs : s = l.map (·.1)) {seen : Array Nat} {ys : List Int} (h : Seen es seen ys) : ys.length ≤ s.length := by
  have hp : (s.filter fun n => decide (n ∈ ys)).Perm ys := (List.perm_ext_iff_of_nodup ((seenNodup hE hs).filter _) h.1).2 fun n => by
    simp only [List.mem_filter, decide_eq_true_eq]
    exact ⟨fun q => q.2, fun q => ⟨seenSub hE hs h n q, q⟩⟩
  rw [← hp.length_eq]
  exact List.length_filter_le _ _
theorem seenAll {es : Array MapEntry} {c : Nat} {l : List (Int × Value)} {s : List Int} (hE : Ents es c l) (hs : s = l.map (·.1)) {seen : Array Nat} {ys : List Int} (h : Seen es seen ys) (hall : ∀ e ∈ es.toList, seen.contains e.born = true) : ys.Perm s :=
  (List.perm_ext_iff_of_nodup h.1 (seenNodup hE hs)).2 fun n => ⟨seenSub hE hs h n, fun hn => by
    rw [hs] at hn
    obtain ⟨p, hp, rfl⟩ := List.mem_map.1 hn
    have : kvI p ∈ es.toList.map kvE := by rw [hE.is]; exact List.mem_map.2 ⟨p, hp, rfl⟩
    obtain ⟨e, he, q⟩ := List.mem_map.1 this
    exact (h.2 p.1).2 ⟨e, he, hall e he, congrArg Prod.fst q⟩⟩
theorem keysIterM_enters : ∀ args w, (callFunc 73 args).run Tryd.prog w = .ok (.enter 73 args) w := enters_of Tryd.func73 (by kernel_rfl) rfl
set_option maxHeartbeats 4000000 in
theorem iter_keysM (s : List Int) (l0 : List (Int × Value)) (hs : s = l0.map (·.1)) (M0 B : Nat) (wB : World) (hB : wB.heap[B]? = some (.cells #[.map (some M0)] 80 (0, 0))) (hM : IMap wB M0 (l0)) :
    IterS Tryd.prog 73 [.pointer (some ⟨B, 0, none⟩)] wB (fun k => k = B ∨ k = M0) (fun ys => ys.Perm s) s.length := by
  intro w hszB hneed K hK m l J Jx W hW hJ hJx hY h0
  have ltB : B < wB.heap.size := (Array.getElem?_eq_some_iff.1 hB).1
  have ltM := hM.lt
  have gB : W.heap[B]? = _ := (hW.block B (by omega)).trans ((hneed B (.inl rfl)).trans hB)
  have gM : IMap W M0 (l0) := hM.at_ ((hW.block M0 (by omega)).trans (hneed M0 (.inr rfl)))
  have nBM : B ≠ M0 := fun e => by obtain ⟨es, cl, h, _⟩ := gM; rw [← e, gB] at h; cases h
  have hszW := hW.size
  have hw0 : WOK W XNone [(B, false, cel [.map (some M0)] 80), (M0, false, hmap (l0))] W := by
    refine ⟨Kx.refl _ W, ?_, by simp [nBM], by simp⟩
    intro e he
    simp only [List.mem_cons, List.not_mem_nil, or_false] at he
    rcases he with rfl | rfl
    · exact ⟨_, gB, rfl⟩
    · exact hmap_of gM
  refine x_iter Tryd.func73 rfl rfl rfl hw0 ?_
  with_reducible repeat refine xc_seq ?_
  with_reducible refine xc_region ?_
  refine xo_load0 T_ rfl rfl rfl (by repeat (first | exact List.Mem.head _ | apply List.Mem.tail | apply List.mem_append_right)) rfl rfl ?_
  refine xo_rangeM T_ rfl rfl rfl (by repeat (first | exact List.Mem.head _ | apply List.Mem.tail | apply List.mem_append_right)) (fun es c => Rep.tail Rep.head) rfl (fun r5 es c hE => ?_)
  with_reducible refine xo_nil ?_
  with_reducible repeat (first | refine xq_then ?_ | refine xq_blockN ?_ | refine xq_scopeN ?_)
  with_reducible repeat refine xc_seq ?_
  with_reducible refine xc_block ?_
  refine xc_loopJ (γ := Array Nat × List Int) (fun q => Seen es q.1 q.2) (fun q => [(0, .func (.yield l) #[] #[]), (5, .pointer (some ⟨r5, 0, none⟩))])
    (fun q => [(r5, true, hiter M0 c q.1), (B, false, cel [.map (some M0)] 80), (M0, false, hmapE es c)]) (fun q w => J q.2 w ∧ W.heap.size ≤ r5 ∧ W.heap.size ≤ w.heap.size) (fun q => s.length - q.2.length) (#[], []) ⟨List.nodup_nil, fun n => by simp⟩ ⟨rfl, rfl, trivial⟩
    (fun w1 hw1 => ⟨hw1.bok (by repeat (first | exact List.Sublist.refl _ | apply List.Sublist.cons_cons | apply List.Sublist.cons | exact List.nil_sublist _)), hJ _ _ _ none h0 (hw1.kx.grown (fun k q => q.elim)) (fun r e => by cases e), hw1.own (b := r5) (by repeat (first | exact List.Mem.head _ | apply List.Mem.tail | apply List.mem_append_right)), hw1.kx.size⟩) ?_
  rintro ⟨seen, ys⟩ hseen wr hbok ⟨hJr, hr5, hszr⟩
  simp only at hseen hJr ⊢
  have hXW : ∀ seen b, XW [(r5, true, hiter M0 c seen), (B, false, cel [.map (some M0)] 80), (M0, false, hmapE es c)] b → r5 = b := by
    rintro seen b ⟨e, he, hwr, rfl⟩
    simp only [List.mem_cons, List.not_mem_nil, or_false] at he
    rcases he with rfl | rfl | rfl
    · rfl
    · cases hwr
    · cases hwr
  have hIr : wr.heap[r5]? = some (.mapIter (some M0) c seen c) := by
    obtain ⟨o, h5, h6⟩ := hbok.bl (r5, true, hiter M0 c seen) (by repeat (first | exact List.Mem.head _ | apply List.Mem.tail | apply List.mem_append_right))
    rw [h5]
    exact congrArg some h6
  have hwalk : ∀ (wx : World) (sn : Array Nat), wx.heap[r5]? = some (.mapIter (some M0) c sn c) → ∀ q, some r5 = some q → W.heap.size ≤ q ∧ ∃ o : Obj, wx.heap[q]? = some o ∧ o.isWalk = true := fun wx sn h q e => by
    cases e
    exact ⟨hr5, _, h, rfl⟩
  have hJn : ∀ (X : Nat → Prop) (w1 : World), (∀ b, X b → r5 = b) → Kx X wr w1 → J ys w1 := fun X w1 hX kx => hJ ys wr w1 (some r5) hJr (kx.grown (fun k q => congrArg some (hX k q))) (hwalk wr seen hIr)
  with_reducible repeat refine xc_seq ?_
  with_reducible refine xc_region ?_
  refine xo_next rfl rfl (by repeat (first | exact List.Mem.head _ | apply List.Mem.tail | apply List.mem_append_right)) (by repeat (first | exact List.Mem.head _ | apply List.Mem.tail | apply List.mem_append_right)) hE (fun seen' => Upd.head) rfl (fun hall => ?_) (fun e he hns => ?_)
  · refine xo_ext rfl rfl rfl rfl ?_
    with_reducible refine xo_nil ?_
    with_reducible repeat (first | refine xq_then ?_ | refine xq_blockN ?_ | refine xq_scopeN ?_)
    with_reducible repeat refine xc_seq ?_
    refine xc_condF rfl ?_
    with_reducible refine xc_exit ?_
    with_reducible repeat (first | refine xq_blockX ?_ | refine xq_thenE ?_ | refine xq_blockE rfl ?_ | refine xq_scopeE ?_)
    exact xq_end0 rfl fun w2 hw2 => ⟨⟨_, rfl⟩, .inl ⟨ys, seenAll hE hs hseen hall, hJn _ _ (hXW seen) hw2.kx⟩⟩
  · obtain ⟨k, hk, hk1⟩ := entsKey hE hs he
    have hst := hseen.stepM hE he hns hk1
    have hlen : ys.length < s.length := by
      have := seenLen hE hs hst
      simp at this
      omega
    rw [hk1]
    refine xo_ext rfl rfl rfl rfl ?_
    with_reducible refine xo_nil ?_
    with_reducible repeat (first | refine xq_then ?_ | refine xq_blockN ?_ | refine xq_scopeN ?_)
    with_reducible repeat refine xc_seq ?_
    refine xc_condT rfl ?_
    with_reducible refine xc_skip ?_
    with_reducible repeat (first | refine xq_then ?_ | refine xq_blockN ?_ | refine xq_scopeN ?_)
    with_reducible repeat refine xc_seq ?_
    with_reducible refine xc_block ?_
    with_reducible repeat refine xc_seq ?_
    with_reducible refine xc_region ?_
    refine xo_entry rfl rfl (by repeat (first | exact List.Mem.head _ | apply List.Mem.tail | apply List.mem_append_right)) (by repeat (first | exact List.Mem.head _ | apply List.Mem.tail | apply List.mem_append_right)) hE he rfl ?_
    rw [hk1]
    refine xo_ext rfl rfl rfl rfl ?_
    refine xo_asg rfl rfl rfl ?_
    with_reducible refine xo_nil ?_
    with_reducible repeat (first | refine xq_then ?_ | refine xq_blockN ?_ | refine xq_scopeN ?_)
    with_reducible repeat refine xc_seq ?_
    with_reducible refine xc_region ?_
    refine xo_mv rfl rfl rfl ?_
    refine xo_mv rfl rfl rfl ?_
    refine xo_yield rfl rfl rfl rfl (fun w1 hw1 => ?_)
    obtain ⟨fn, tmps, assign, body, hy1, hy2⟩ := hY ys k w1 (hJn _ _ (hXW _) hw1.kx) hlen
    refine ⟨fn, tmps, assign, body, hy1, hy2.mono ?_⟩
    have hI1 : w1.heap[r5]? = some (.mapIter (some M0) c (seen.push e.born) c) := by
      obtain ⟨o, h5, h6⟩ := hw1.bl (r5, true, hiter M0 c (seen.push e.born)) (by repeat (first | exact List.Mem.head _ | apply List.Mem.tail | apply List.mem_append_right))
      rw [h5]
      exact congrArg some h6
    have hB1 := hw1.obj (b := B) (wr := false) (cs := [.map (some M0)]) (t := 80) (by repeat (first | exact List.Mem.head _ | apply List.Mem.tail | apply List.mem_append_right))
    have hM1 : w1.heap[M0]? = some (.map es c) := by
      obtain ⟨o, h5, h6⟩ := hw1.bl (M0, false, hmapE es c) (by repeat (first | exact List.Mem.head _ | apply List.Mem.tail | apply List.mem_append_right))
      rw [h5]
      exact congrArg some h6
    have hsz1 := hw1.kx.size
    clear hw1 hy1 hy2
    rintro e2 W3 (⟨rfl, hJ3, hk3⟩ | ⟨rfl, hJx3⟩)
    · have hI3 := hk3.2.2 r5 _ (by omega) hI1 rfl
      have hB3 := (hk3.1 B (hK B (.inl rfl))).trans hB1
      have hM3 := (hk3.1 M0 (hK M0 (.inr rfl))).trans hM1
      have n5B : r5 ≠ B := by omega
      have n5M : r5 ≠ M0 := by omega
      have hsz3 : W.heap.size ≤ W3.heap.size := by have := hk3.2.1; omega
      have hbok3 : BOK [(r5, true, hiter M0 c (seen.push e.born)), (B, false, cel [.map (some M0)] 80), (M0, false, hmapE es c)] W3 := by
        refine ⟨?_, by simp [n5B, n5M, nBM]⟩
        intro e he
        simp only [List.mem_cons, List.not_mem_nil, or_false] at he
        rcases he with rfl | rfl | rfl
        · exact ⟨_, hI3, rfl⟩
        · exact ⟨_, hB3, rfl⟩
        · exact ⟨_, hM3, rfl⟩
      refine ⟨.bool true, _, W3, _, rfl, hbok3.wok, ?_⟩
      refine xo_notOp rfl rfl rfl ?_
      with_reducible refine xo_nil ?_
      with_reducible repeat (first | refine xq_then ?_ | refine xq_blockN ?_ | refine xq_scopeN ?_)
      with_reducible repeat refine xc_seq ?_
      refine xc_condF rfl ?_
      with_reducible refine xc_skip ?_
      with_reducible repeat (first | refine xq_then ?_ | refine xq_blockN ?_ | refine xq_scopeN ?_)
      refine xq_againJ _ _ _ _ _ _ (seen.push e.born, ys ++ [k]) hst (by simp only [List.length_append, List.length_cons, List.length_nil]; omega) ⟨rfl, rfl, trivial⟩
        (fun w1 hw1 => ⟨hw1.bok (by repeat (first | exact List.Sublist.refl _ | apply List.Sublist.cons_cons | apply List.Sublist.cons | exact List.nil_sublist _)), hJ _ W3 w1 (some r5) hJ3 (hw1.kx.grown (fun k q => congrArg some (hXW _ k q))) (hwalk W3 _ hI3), hr5, Nat.le_trans hsz3 hw1.kx.size⟩)
    · refine ⟨.bool false, [], W3, XNone, rfl, WOK.start _ _, ?_⟩
      refine xo_notOp rfl rfl rfl ?_
      with_reducible refine xo_nil ?_
      with_reducible repeat (first | refine xq_then ?_ | refine xq_blockN ?_ | refine xq_scopeN ?_)
      with_reducible repeat refine xc_seq ?_
      refine xc_condT rfl ?_
      with_reducible repeat refine xc_seq ?_
      with_reducible refine xc_ret ?_
      with_reducible repeat (first | refine xq_thenR ?_ | refine xq_blockR ?_ | refine xq_scopeR ?_)
      exact xq_ret0 rfl fun w2 hw2 => ⟨⟨_, rfl⟩, .inr ⟨_, trivial, hJx _ W3 w2 none hJx3 (hw2.kx.grown (fun k q => q.elim)) (fun r e => by cases e)⟩⟩
theorem keysM_enters : ∀ args w, (callFunc 53 args).run Tryd.prog w = .ok (.enter 53 args) w := enters_of Tryd.func53 (by kernel_rfl) rfl
theorem keysM_calls (M0 : Nat) (w : World) :
    Calls Tryd.prog 53 #[.map (some M0)] w fun e w' => ∃ B, e = .returned (.func (.func 73) #[] #[.pointer (some ⟨B, 0, none⟩)]) ∧ w.heap.size ≤ B ∧ w'.heap[B]? = some (.cells #[.map (some M0)] 80 (0, 0)) ∧ Below w.heap.size w w' := by
  refine x_calls (X := XNone) Tryd.func53 rfl rfl rfl ?_
  with_reducible repeat refine xc_seq ?_
  with_reducible refine xc_region ?_
  refine xo_box rfl rfl rfl rfl (fun b1 => ?_)
  refine xo_asg rfl rfl rfl ?_
  with_reducible refine xo_nil ?_
  with_reducible repeat (first | refine xq_then ?_ | refine xq_blockN ?_ | refine xq_scopeN ?_)
  with_reducible repeat refine xc_seq ?_
  with_reducible refine xc_region ?_
  refine xo_mkf rfl rfl rfl rfl ?_
  refine xo_asg rfl rfl rfl ?_
  with_reducible refine xo_nil ?_
  with_reducible repeat (first | refine xq_then ?_ | refine xq_blockN ?_ | refine xq_scopeN ?_)
  with_reducible repeat refine xc_seq ?_
  with_reducible refine xc_ret ?_
  with_reducible repeat (first | refine xq_thenR ?_ | refine xq_blockR ?_ | refine xq_scopeR ?_)
  exact xq_ret1 rfl rfl fun w' hw => ⟨b1, rfl, hw.own (by repeat (first | exact List.Mem.head _ | apply List.Mem.tail | apply List.mem_append_right)), hw.obj (wr := true) (cs := [.map (some M0)]) (by repeat (first | exact List.Mem.head _ | apply List.Mem.tail | apply List.mem_append_right)), hw.kx.below⟩
end Go.Proofs.YtcmepdamemnbkaaDoor
namespace Go.Proofs.YtcmepdamemnbkaaDoor
open Go.RowKit Go.Proofs.YtcmepdamemnbkaaDoorW.PrintWords
set_option linter.unusedVariables false
set_option linter.unusedSimpArgs false
section
variable {P : Program} {n N : Nat} {w0 : World} {fn : Func} {R : Ending → World → Prop} {σ : Slots} {η : Hp}
theorem xq_retM3 {t u s : Tmp} {v x y : Value} {D : Nat} (hf : fn.results = #[.tmp t, .tmp u, .tmp s]) (hv : slot t σ = some v) (hx : slot u σ = some x) (hy : slot s σ = some y) (h : ∀ w, WOK w0 XNone η w → R (.returned (.tuple #[v, x, y])) w) :
    XQ N [mark_ D] w0 XNone (bodyPostM Fence.wide n P fn R) .ret σ ((D, true, hdef) :: η) := by
  intro a w ha hw
  obtain ⟨o, hD, ho⟩ := hw.bl (D, true, hdef) (List.mem_cons_self ..)
  rw [show o = _ from ho] at hD
  show LeavesInM _ _ _ _ _ _ a.defers _ w
  rw [ha.df]
  refine ⟨by simp, .inl ⟨D, _, rfl, run_takeDeferred hD, ?_⟩⟩
  have hw' : WOK w0 XNone η (w.putObj D (.deferred none)) := by
    have h1 : D ∉ η.map (·.1) := by have := hw.nd; simp only [List.map_cons, List.nodup_cons] at this; exact this.1
    have h2 := hw.sub (List.sublist_cons_self _ _)
    have h3 : w0.heap.size ≤ D := by
      rcases hw.ow (D, true, hdef) (List.mem_cons_self ..) rfl with h4 | h4
      · exact h4
      · exact h4.elim
    refine ⟨Kx.of_below (below_takeD h2.kx.below h3), ?_, h2.nd, h2.ow⟩
    intro e he
    obtain ⟨o, h4, h5⟩ := h2.bl e he
    exact ⟨o, (World.putObj_heap_other (fun q => h1 (List.mem_map.2 ⟨e, he, q⟩))).trans h4, h5⟩
  exact ⟨.tuple #[v, x, y], by rw [results_tmp3 hf, getD_of (ha.sl _ _ hv), getD_of (ha.sl _ _ hx), getD_of (ha.sl _ _ hy)], h _ hw'⟩
theorem xq_retM03 {t u s : Tmp} {v x y : Value} (hf : fn.results = #[.tmp t, .tmp u, .tmp s]) (hv : slot t σ = some v) (hx : slot u σ = some x) (hy : slot s σ = some y) (h : ∀ w, WOK w0 XNone η w → R (.returned (.tuple #[v, x, y])) w) :
    XQ N [] w0 XNone (bodyPostM Fence.wide n P fn R) .ret σ η := by
  intro a w ha hw
  show LeavesInM _ _ _ _ _ _ a.defers _ w
  rw [ha.df]
  exact ⟨.tuple #[v, x, y], by rw [results_tmp3 hf, getD_of (ha.sl _ _ hv), getD_of (ha.sl _ _ hx), getD_of (ha.sl _ _ hy)], h _ hw⟩
end
theorem imDel_stM {L : List (Int × Nat)} {id : Int} (h : (L.map (·.1)).Nodup) : imDel id (stM L) = stM (L.filter fun p => !decide (p.1 = id)) := by
  induction L with
  | nil => rfl
  | cons p L ih =>
    rw [List.map_cons, List.nodup_cons] at h
    by_cases e : p.1 = id
    · have : L.filter (fun p => !decide (p.1 = id)) = L := List.filter_eq_self.2 fun q hq => by
        have : q.1 ≠ id := fun e2 => h.1 (by rw [e, ← e2]; exact List.mem_map.2 ⟨q, hq, rfl⟩)
        simp [this]
      rw [List.filter_cons, if_neg (by simp [e]), this]
      simp [stM, imDel, e]
    · rw [List.filter_cons, if_pos (by simp [e])]
      simp only [stM, List.map_cons, imDel, e, if_false]
      exact congrArg _ (ih h.2)
section
variable {P : Program} {ro : Option Nat} {n N : Nat} {ds : List Deferred} {w0 : World} {X : Nat → Prop} {Q : Exit → Act → World → Prop} {σ : Slots} {η : Hp} {ops rest : List Oper} {d : Option Tmp} {ty : TypeId} {pos : String} {aft : Array Edge} {g : Option (Nat × Bool)}
theorem xo_mdel (T : Tys P) {t tk te tk' : TypeId} {m x : Operand} {b : Nat} {L : List (Int × Nat)} {k : Int} {η' : Hp} (hg : gS ops σ g = some true) (ht : look t T.mp = some (tk, te)) (hk : look tk T.ik = some .i64) (hm : ev σ m = some (.map (some b))) (hx : ev σ x = some (.int .i64 k)) (hb : (b, true, hmap (stM L)) ∈ η) (hL : (L.map (·.1)).Nodup)
    (hU : Upd b (hmap (stM (L.filter fun p => !decide (p.1 = k)))) η η') (hN : dstOK N d = true) (h : XO P ro n N ds w0 X Q ops (putS d (.tuple #[]) σ) η' rest) :
    XO P ro n N ds w0 X Q ops σ η (⟨d, .call { callee := .builtin .delete, args := #[m, x], argTypes := #[t, tk'] }, ty, pos, aft, g⟩ :: rest) :=
  xo_base rfl hg fun a w ha hw => by
    obtain ⟨o, h1, h2⟩ := (hw.imap hb).del (T.hmp _ (look_mem ht)) (T.hik _ (look_mem hk)) ty tk' k
    rw [imDel_stM hL] at h2
    obtain ⟨o', h3, h4⟩ := hmap_of h2
    refine ⟨.value (.tuple #[]), _, _, ?_, .inl rfl, h _ _ (ha.put hN _) (hw.upd hU (OneB.putObj w b o) h3 h4)⟩
    simp only [execOp, resolve, invoke, builtin, Sem.run_bind, Sem.run_pure, Result.andThen_ok, List.map_toArray, List.map_cons, List.map_nil, ha.ev hm, ha.ev hx, h1]
end
theorem WOK.apart {w0 : World} {X : Nat → Prop} {ζ η : Hp} {w : World} (h : WOK w0 X (ζ ++ η) w) {e e' : Nat × Bool × HP} (he : e ∈ ζ) (he' : e' ∈ η) : e'.1 ≠ e.1 := by
  have := h.nd
  rw [List.map_append, List.nodup_append] at this
  exact fun q => this.2.2 _ (List.mem_map.2 ⟨e, he, rfl⟩) _ (List.mem_map.2 ⟨e', he', rfl⟩) q.symm
def delL (L : List (Int × Nat)) (ys : List Int) : List (Int × Nat) := ys.foldl (fun L n => L.filter fun p => !decide (p.1 = n)) L
theorem delL_app (L : List (Int × Nat)) (ys : List Int) (x : Int) : delL L (ys ++ [x]) = (delL L ys).filter fun p => !decide (p.1 = x) := by simp [delL]
theorem delL_sub (L : List (Int × Nat)) : ∀ ys, (delL L ys).Sublist L := by
  intro ys
  induction ys generalizing L with
  | nil => exact List.Sublist.refl _
  | cons y ys ih => exact (ih _).trans List.filter_sublist
theorem delL_keys (L : List (Int × Nat)) (ys : List Int) : (delL L ys).map (·.1) = (L.map (·.1)).filter fun n => !decide (n ∈ ys) := by
  induction ys generalizing L with
  | nil =>
    rw [List.filter_eq_self.2 (fun n _ => by simp)]
    rfl
  | cons y ys ih =>
    show (delL (L.filter fun p => !decide (p.1 = y)) ys).map (·.1) = _
    rw [ih, List.filter_map, List.filter_map, List.filter_filter]
    congr 1
    refine List.filter_congr fun p _ => ?_
    by_cases h1 : p.1 = y <;> by_cases h2 : p.1 ∈ ys <;> simp [h1, h2]
/-- how many pieces of a batch are out -/
def outF (m : List MovT) (id : Int) : Int := (storeF m id).d - (storeF m id).b
def recallC (r : List RecT) (l : List LetT) (m : List MovT) (day : Int) : Int := if checkF r l = 0 then (if countF r m then openF r l day [] else 82) else checkF r l
def heldF (r : List RecT) (l : List LetT) (day : Int) : List Int := (batchesF r).filter fun n => !decide (n ∈ holdsF r (goneF r l day))
def recallR (r : List RecT) (l : List LetT) (m : List MovT) (day : Int) : List Int := if recallC r l m day = 0 then (heldF r l day).filter fun n => decide (0 < outF m n) else []
def recallN (r : List RecT) (l : List LetT) (m : List MovT) (day : Int) : Int := ((recallR r l m day).map (outF m)).sum
theorem batches_sub (r : List RecT) : (batchesF r).Sublist (r.map fun x => x.f0) := List.Sublist.map _ List.filter_sublist
theorem batches_le {r : List RecT} (hs : SortedIds r) : (batchesF r).Pairwise fun a b => decide (a ≤ b) = true := by
  refine List.Pairwise.sublist (batches_sub r) ?_
  rw [List.pairwise_iff_getElem]
  intro i j hi hj hij
  simp only [List.length_map] at hi hj
  have := sorted_lt hs j i hij hj
  simp only [idAt, List.getD_eq_getElem?_getD, List.getElem?_eq_getElem hi, List.getElem?_eq_getElem hj, Option.getD_some] at this
  simp only [List.getElem_map, decide_eq_true_eq]
  omega
/-- the sum so far -/
theorem recSum_B {r : List RecT} {m : List MovT} (h : countF r m = true) : ∀ ids : List Int, -(8000000 * (ids.length : Int)) ≤ (ids.map (outF m)).sum ∧ (ids.map (outF m)).sum ≤ 8000000 * (ids.length : Int)
  | [] => by simp
  | x :: ids => by
    have h1 := recSum_B h ids
    have h2 := count_B h x
    unfold StB at h2
    simp only [List.map_cons, List.sum_cons, List.length_cons, outF] at *
    omega
set_option maxHeartbeats 16000000 in
theorem recall_calls (A B C : Option Addr) (c c' c2 : Nat) (r : List RecT) (l : List LetT) (m : List MovT) (day : Int) (w : World) (hr : Kd.C recK w A r.length r) (hl : Kd.C letK w B l.length l) (hm : Kd.C movK w C m.length m) (hk : Bytes r) (hkl : BytesL l) (hkm : BytesM m) (hglob : GlobOK w) :
    Calls Tryd.prog 15 #[.slice A r.length c, .slice B l.length c', .slice C m.length c2, .int .i64 day] w fun e w' => ∃ rr : RowR, e = .returned (.tuple #[valR rr (recallR r l m day).length, .int .i64 (recallN r l m day), .int .i64 (recallC r l m day)]) ∧ RowAt 3 w.heap.size w' rr (recallR r l m day) ∧ Below w.heap.size w w' := by
  refine x_callsM 3 Tryd.func15 rfl rfl rfl (WOK.start XNone w) ?_
  with_reducible repeat refine xc_seq ?_
  with_reducible refine xc_region ?_
  refine xo_asg rfl rfl rfl ?_
  refine xo_asg rfl rfl rfl ?_
  refine xo_asg rfl rfl rfl ?_
  with_reducible refine xo_nil ?_
  with_reducible repeat (first | refine xq_then ?_ | refine xq_blockN ?_ | refine xq_scopeN ?_)
  with_reducible repeat refine xc_seq ?_
  with_reducible refine xc_region ?_
  refine xo_mv rfl rfl rfl ?_
  refine xo_mv rfl rfl rfl ?_
  refine xo_callB (fs := []) (cs := []) rfl rfl rfl check_enters rfl (fun w1 hw1 => check_calls A B c c' r l w1 (Kd.C_below hr hw1.kx.below) (Kd.C_below hl hw1.kx.below) hk hkl) ?_
  refine xo_asg rfl rfl rfl ?_
  with_reducible refine xo_nil ?_
  with_reducible repeat (first | refine xq_then ?_ | refine xq_blockN ?_ | refine xq_scopeN ?_)
  with_reducible repeat refine xc_seq ?_
  with_reducible refine xc_region ?_
  refine xo_mv rfl rfl rfl ?_
  refine xo_neq rfl rfl rfl rfl ?_
  with_reducible refine xo_nil ?_
  with_reducible repeat (first | refine xq_then ?_ | refine xq_blockN ?_ | refine xq_scopeN ?_)
  with_reducible repeat refine xc_seq ?_
  refine xc_cond rfl (fun hck => ?_) (fun hck => ?_)
  · have hck : ¬ checkF r l = 0 := by simpa using hck
    have e1 : recallC r l m day = checkF r l := by rw [recallC, if_neg hck]
    have e2 : recallR r l m day = [] := by rw [recallR, e1, if_neg hck]
    have e3 : recallN r l m day = 0 := by rw [recallN, e2]; rfl
    with_reducible repeat refine xc_seq ?_
    with_reducible refine xc_region ?_
    refine xo_mv rfl rfl rfl ?_
    refine xo_asg rfl rfl rfl ?_
    refine xo_asg rfl rfl rfl ?_
    refine xo_asg rfl rfl rfl ?_
    with_reducible refine xo_nil ?_
    with_reducible repeat (first | refine xq_then ?_ | refine xq_blockN ?_ | refine xq_scopeN ?_)
    with_reducible repeat refine xc_seq ?_
    with_reducible refine xc_ret ?_
    with_reducible repeat (first | refine xq_thenR ?_ | refine xq_blockR ?_ | refine xq_scopeR ?_)
    refine xq_retM03 rfl rfl rfl rfl fun w' hw => ⟨none, by rw [e1, e2, e3]; rfl, ?_, hw.kx.below⟩
    rw [e2]
    exact ⟨fun _ => rfl, fun p hp => by cases hp⟩
  have hck : checkF r l = 0 := by simpa using hck
  have hrec := check_zero hck
  have hs := sorted_of hrec
  have hlen := recorded_len hrec
  with_reducible refine xc_skip ?_
  with_reducible repeat (first | refine xq_then ?_ | refine xq_blockN ?_ | refine xq_scopeN ?_)
  cases hcf : countF r m
  · have e1 : recallC r l m day = 82 := by rw [recallC, if_pos hck, hcf]; rfl
    have e2 : recallR r l m day = [] := by rw [recallR, e1]; rfl
    have e3 : recallN r l m day = 0 := by rw [recallN, e2]; rfl
    with_reducible repeat refine xc_seq ?_
    with_reducible refine xc_region ?_
    refine xo_mv rfl rfl rfl ?_
    refine xo_mv rfl rfl rfl ?_
    refine xo_call (fs := []) (cs := []) rfl rfl rfl count_enters rfl (fun w1 hw1 => (count_calls A C c c2 r m w1 (Kd.C_below hr hw1.kx.below) (Kd.C_below hm hw1.kx.below) hkm hs (by omega) (hglob.below hw1.kx.below)).mono ?_)
    rintro e w2 (⟨_, rfl, hb⟩ | ⟨h, _⟩)
    rotate_left
    · rw [hcf] at h; cases h
    refine ⟨_, _, rfl, hw1.below hb, ?_⟩
    clear hb hw1
    refine xo_mv rfl rfl rfl ?_
    refine xo_ext rfl rfl rfl rfl ?_
    refine xo_ext rfl rfl rfl rfl ?_
    refine xo_alloc T_ rfl rfl rfl rfl (fun b12 => ?_)
    refine xo_store T_ rfl rfl rfl rfl (by repeat (first | exact List.Mem.head _ | apply List.Mem.tail | apply List.mem_append_right)) rfl rfl rfl rfl (by repeat (first | exact Upd.head | apply Upd.tail | apply Upd.app)) rfl ?_
    refine xo_asg rfl rfl rfl ?_
    with_reducible refine xo_nil ?_
    with_reducible repeat (first | refine xq_then ?_ | refine xq_blockN ?_ | refine xq_scopeN ?_)
    with_reducible repeat refine xc_seq ?_
    with_reducible refine xc_region ?_
    refine xo_mv rfl rfl rfl ?_
    refine xo_notOp rfl rfl rfl ?_
    with_reducible refine xo_nil ?_
    with_reducible repeat (first | refine xq_then ?_ | refine xq_blockN ?_ | refine xq_scopeN ?_)
    with_reducible repeat refine xc_seq ?_
    refine xc_condT rfl ?_
    with_reducible repeat refine xc_seq ?_
    with_reducible refine xc_region ?_
    refine xo_asg rfl rfl rfl ?_
    refine xo_asg rfl rfl rfl ?_
    refine xo_asg rfl rfl rfl ?_
    with_reducible refine xo_nil ?_
    with_reducible repeat (first | refine xq_then ?_ | refine xq_blockN ?_ | refine xq_scopeN ?_)
    with_reducible repeat refine xc_seq ?_
    with_reducible refine xc_ret ?_
    with_reducible repeat (first | refine xq_thenR ?_ | refine xq_blockR ?_ | refine xq_scopeR ?_)
    refine xq_retM03 rfl rfl rfl rfl fun w' hw => ⟨none, by rw [e1, e2, e3]; rfl, ?_, hw.kx.below⟩
    rw [e2]
    exact ⟨fun _ => rfl, fun p hp => by cases hp⟩
  with_reducible repeat refine xc_seq ?_
  with_reducible refine xc_region ?_
  refine xo_mv rfl rfl rfl ?_
  refine xo_mv rfl rfl rfl ?_
  refine xo_call (fs := []) (cs := []) rfl rfl rfl count_enters rfl (fun w1 hw1 => (count_calls A C c c2 r m w1 (Kd.C_below hr hw1.kx.below) (Kd.C_below hm hw1.kx.below) hkm hs (by omega) (hglob.below hw1.kx.below)).mono ?_)
  rintro e w2 (⟨h, _⟩ | ⟨_, M, L, rfl, hL, hz⟩)
  · rw [hcf] at h; cases h
  refine ⟨_, _, rfl, hw1.join hz (fun e he => (List.mem_cons.1 he).elim (fun q => by rw [q]) (stH_true e)), ?_⟩
  clear hz hw1
  refine xo_mv rfl rfl rfl ?_
  refine xo_ext rfl rfl rfl rfl ?_
  refine xo_ext rfl rfl rfl rfl ?_
  refine xo_alloc T_ rfl rfl rfl rfl (fun b12 => ?_)
  refine xo_store T_ rfl rfl rfl rfl (by repeat (first | exact List.Mem.head _ | apply List.Mem.tail | apply List.mem_append_right)) rfl rfl rfl rfl (by repeat (first | exact Upd.head | apply Upd.tail | apply Upd.app)) rfl ?_
  refine xo_asg rfl rfl rfl ?_
  with_reducible refine xo_nil ?_
  with_reducible repeat (first | refine xq_then ?_ | refine xq_blockN ?_ | refine xq_scopeN ?_)
  have hnd : (L.map (·.1)).Nodup := by
    have := batches_nodup hs r.length (Nat.le_refl _)
    rw [List.take_of_length_le (Nat.le_refl _)] at this
    rw [hL]
    exact this
  with_reducible repeat refine xc_seq ?_
  with_reducible refine xc_region ?_
  refine xo_mv rfl rfl rfl ?_
  refine xo_notOp rfl rfl rfl ?_
  with_reducible refine xo_nil ?_
  with_reducible repeat (first | refine xq_then ?_ | refine xq_blockN ?_ | refine xq_scopeN ?_)
  with_reducible repeat refine xc_seq ?_
  refine xc_condF rfl ?_
  with_reducible refine xc_skip ?_
  with_reducible repeat (first | refine xq_then ?_ | refine xq_blockN ?_ | refine xq_scopeN ?_)
  have e0 : recallC r l m day = openF r l day [] := by rw [recallC, if_pos hck, hcf]; rfl
  by_cases ho : openF r l day [] = 0
  rotate_left
  · have hd : (!decide (openF r l day [] = 0)) = true := by simp [ho]
    have e2 : recallR r l m day = [] := by rw [recallR, e0, if_neg ho]
    have e3 : recallN r l m day = 0 := by rw [recallN, e2]; rfl
    with_reducible repeat refine xc_seq ?_
    with_reducible refine xc_region ?_
    refine xo_mv rfl rfl rfl ?_
    refine xo_mv rfl rfl rfl ?_
    refine xo_mv rfl rfl rfl ?_
    refine xo_call (fs := []) (cs := []) rfl rfl rfl open_enters rfl (fun w1 hw1 => (open_calls A B none c c' 0 r l day [] w1 (Kd.C_below hr hw1.kx.below) (Kd.C_below hl hw1.kx.below) (Kd.C_nil _ _) hk hkl).mono ?_)
    rintro e w2 ⟨sv, rfl, hb, hne, h0⟩
    obtain rfl := hne ho
    refine ⟨_, _, rfl, hw1.below hb, ?_⟩
    clear hb hne h0 hw1
    refine xo_mv rfl rfl rfl ?_
    refine xo_ext rfl rfl rfl rfl ?_
    refine xo_ext rfl rfl rfl rfl ?_
    refine xo_alloc T_ rfl rfl rfl rfl (fun b14 => ?_)
    refine xo_store T_ rfl rfl rfl rfl (by repeat (first | exact List.Mem.head _ | apply List.Mem.tail | apply List.mem_append_right)) rfl rfl rfl rfl (by repeat (first | exact Upd.head | apply Upd.tail | apply Upd.app)) rfl ?_
    refine xo_asg rfl rfl rfl ?_
    with_reducible refine xo_nil ?_
    with_reducible repeat (first | refine xq_then ?_ | refine xq_blockN ?_ | refine xq_scopeN ?_)
    with_reducible repeat refine xc_seq ?_
    with_reducible refine xc_region ?_
    refine xo_mv rfl rfl rfl ?_
    refine xo_neq rfl rfl rfl rfl ?_
    refine xo_as (i := 41) rfl (congrArg Value.bool hd) ?_
    with_reducible refine xo_nil ?_
    with_reducible repeat (first | refine xq_then ?_ | refine xq_blockN ?_ | refine xq_scopeN ?_)
    with_reducible repeat refine xc_seq ?_
    refine xc_condT rfl ?_
    with_reducible repeat refine xc_seq ?_
    with_reducible refine xc_region ?_
    refine xo_mv rfl rfl rfl ?_
    refine xo_asg rfl rfl rfl ?_
    refine xo_asg rfl rfl rfl ?_
    refine xo_asg rfl rfl rfl ?_
    with_reducible refine xo_nil ?_
    with_reducible repeat (first | refine xq_then ?_ | refine xq_blockN ?_ | refine xq_scopeN ?_)
    with_reducible repeat refine xc_seq ?_
    with_reducible refine xc_ret ?_
    with_reducible repeat (first | refine xq_thenR ?_ | refine xq_blockR ?_ | refine xq_scopeR ?_)
    refine xq_retM03 rfl rfl rfl rfl fun w' hw => ⟨none, by rw [e0, e2, e3]; rfl, ?_, hw.kx.below⟩
    rw [e2]
    exact ⟨fun _ => rfl, fun p hp => by cases hp⟩
  have hd : (!decide (openF r l day [] = 0)) = false := by simp [ho]
  have e2 : recallR r l m day = (heldF r l day).filter fun n => decide (0 < outF m n) := by rw [recallR, e0, if_pos ho]
  with_reducible repeat refine xc_seq ?_
  with_reducible refine xc_region ?_
  refine xo_mv rfl rfl rfl ?_
  refine xo_mv rfl rfl rfl ?_
  refine xo_mv rfl rfl rfl ?_
  refine xo_call (fs := []) (cs := []) rfl rfl rfl open_enters rfl (fun w1 hw1 => (open_calls A B none c c' 0 r l day [] w1 (Kd.C_below hr hw1.kx.below) (Kd.C_below hl hw1.kx.below) (Kd.C_nil _ _) hk hkl).mono ?_)
  rintro e w2 ⟨sv, rfl, hb, hne, h0⟩
  obtain ⟨G, rfl, hM1, hM2⟩ := h0 ho
  obtain ⟨oM, hM3, hM4⟩ := hmap_of hM2
  refine ⟨_, _, rfl, hw1.more hb hM1 hM3 hM4, ?_⟩
  clear hb hM2 hM3 hM4 hne h0 hM1 hw1
  refine xo_mv rfl rfl rfl ?_
  refine xo_ext rfl rfl rfl rfl ?_
  refine xo_ext rfl rfl rfl rfl ?_
  refine xo_alloc T_ rfl rfl rfl rfl (fun b14 => ?_)
  refine xo_store T_ rfl rfl rfl rfl (by repeat (first | exact List.Mem.head _ | apply List.Mem.tail | apply List.mem_append_right)) rfl rfl rfl rfl (by repeat (first | exact Upd.head | apply Upd.tail | apply Upd.app)) rfl ?_
  refine xo_asg rfl rfl rfl ?_
  with_reducible refine xo_nil ?_
  with_reducible repeat (first | refine xq_then ?_ | refine xq_blockN ?_ | refine xq_scopeN ?_)
  with_reducible repeat refine xc_seq ?_
  with_reducible refine xc_region ?_
  refine xo_mv rfl rfl rfl ?_
  refine xo_neq rfl rfl rfl rfl ?_
  refine xo_as (i := 41) rfl (congrArg Value.bool hd) ?_
  with_reducible refine xo_nil ?_
  with_reducible repeat (first | refine xq_then ?_ | refine xq_blockN ?_ | refine xq_scopeN ?_)
  with_reducible repeat refine xc_seq ?_
  refine xc_condF rfl ?_
  with_reducible refine xc_skip ?_
  with_reducible repeat (first | refine xq_then ?_ | refine xq_blockN ?_ | refine xq_scopeN ?_)
  with_reducible repeat refine xc_seq ?_
  with_reducible refine xc_region ?_
  refine xo_loadN T_ rfl rfl rfl (by repeat (first | exact List.Mem.head _ | apply List.Mem.tail | apply List.mem_append_right)) rfl rfl ?_
  refine xo_fa T_ rfl rfl rfl rfl rfl ?_
  refine xo_load0 T_ rfl rfl rfl (by repeat (first | exact List.Mem.head _ | apply List.Mem.tail | apply List.mem_append_right)) rfl rfl ?_
  refine xo_holds rfl rfl rfl rfl (fun b2 b3 => ?_)
  with_reducible refine xo_nil ?_
  with_reducible repeat (first | refine xq_then ?_ | refine xq_blockN ?_ | refine xq_scopeN ?_)
  with_reducible repeat refine xc_seq ?_
  with_reducible refine xc_block ?_
  refine xc_know (φ := (∀ e ∈ ((b12, true, cel [.map (some M)] 80) :: (M, true, hmap (stM L)) :: (stH (storeF m) L ++ []) : Hp), ¬ needOf w b2 b3 G e.1) ∧ b2 ≠ b3) (fun w1 hw1 => ?_) fun hφ => ?_
  · refine ⟨fun e he hne => ?_, ne_of_nd hw1⟩
    have hap := fun e0 (h0 : e0 ∈ ([(b3, true, cel [.map (some G)] 62), (b2, true, cel [.slice A r.length c, .map (some G)] 91), (b14, true, cel [.slice A r.length c, .map (some G)] 91), (G, true, hmap (setV (goneF r l day)))] : Hp)) => hw1.apart (ζ := [(b3, true, cel [.map (some G)] 62), (b2, true, cel [.slice A r.length c, .map (some G)] 91), (b14, true, cel [.slice A r.length c, .map (some G)] 91), (G, true, hmap (setV (goneF r l day)))]) (η := (b12, true, cel [.map (some M)] 80) :: (M, true, hmap (stM L)) :: (stH (storeF m) L ++ [])) h0 he
    have htr : e.2.1 = true := by
      rcases List.mem_cons.1 he with rfl | he
      · rfl
      rcases List.mem_cons.1 he with rfl | he
      · rfl
      · rw [List.append_nil] at he
        exact stH_true e he
    have hown := hw1.ow e (List.mem_append_right [(b3, true, cel [.map (some G)] 62), (b2, true, cel [.slice A r.length c, .map (some G)] 91), (b14, true, cel [.slice A r.length c, .map (some G)] 91), (G, true, hmap (setV (goneF r l day)))] he) htr
    rcases hown with hown | hown
    · rcases hne with h | h | h | h
      · omega
      · exact hap _ (List.Mem.tail _ (List.Mem.head _)) h
      · exact hap _ (List.Mem.head _) h
      · exact hap _ (List.Mem.tail _ (List.Mem.tail _ (List.Mem.tail _ (List.Mem.head _)))) h
    · exact hown
  obtain ⟨hφ, h23⟩ := hφ
  have hkeys : ∀ ys, ((delL L ys).map (·.1)).Nodup := fun ys => by rw [delL_keys]; exact hnd.filter _
  refine xc_range (xs := holdsF r (goneF r l day)) (by omega) rfl iter_enters rfl (needOf w b2 b3 G) (fun w1 hw1 k hk => ?_) (fun w1 hw1 => (iter_holds A c r (goneF r l day) G G b2 b3 w w1 hr (SameB.of_below hw1.kx.below) hw1.kx.size (hw1.obj (by repeat (first | exact List.Mem.head _ | apply List.Mem.tail | apply List.mem_append_right))) (hw1.obj (by repeat (first | exact List.Mem.head _ | apply List.Mem.tail | apply List.mem_append_right))) (hw1.imap (wr := true) (by repeat (first | exact List.Mem.head _ | apply List.Mem.tail | apply List.mem_append_right))) h23) w1 (Nat.le_refl _) (fun k hk => rfl) _ (fun k hk => hk) _)
    (γ := Unit) (fun _ _ => True) (fun ys _ => (b12, true, cel [.map (some M)] 80) :: (M, true, hmap (stM (delL L ys))) :: (stH (storeF m) L ++ [])) () trivial ?_ ?_ ?_ (fun x => [(12, .pointer (some ⟨b12, 0, none⟩)), (15, .int .i64 x)]) ?_ ?_ ?_
  · rcases hk with hk | rfl | rfl | rfl
    · exact Nat.lt_of_lt_of_le hk hw1.kx.size
    · exact hw1.lt (e := (k, true, cel [.slice A r.length c, .map (some G)] 91)) (by repeat (first | exact List.Mem.head _ | apply List.Mem.tail | apply List.mem_append_right))
    · exact hw1.lt (e := (k, true, cel [.map (some G)] 62)) (by repeat (first | exact List.Mem.head _ | apply List.Mem.tail | apply List.mem_append_right))
    · exact hw1.lt (e := (k, true, hmap (setV (goneF r l day)))) (by repeat (first | exact List.Mem.head _ | apply List.Mem.tail | apply List.mem_append_right))
  · exact (by repeat (first | exact List.Sublist.refl _ | apply List.Sublist.cons_cons | apply List.Sublist.cons | exact List.nil_sublist _))
  · intro ys _ _ e he
    right
    rcases List.mem_cons.1 he with rfl | he
    · exact ⟨(b12, true, cel [.map (some M)] 80), (by repeat (first | exact List.Mem.head _ | apply List.Mem.tail | apply List.mem_append_right)), rfl⟩
    rcases List.mem_cons.1 he with rfl | he
    · exact ⟨(M, true, hmap (stM L)), (by repeat (first | exact List.Mem.head _ | apply List.Mem.tail | apply List.mem_append_right)), rfl⟩
    · exact ⟨e, List.Mem.tail _ (List.Mem.tail _ (List.Mem.tail _ (List.Mem.tail _ (List.Mem.tail _ (List.Mem.tail _ he))))), rfl⟩
  · intro ys _ _ e he _
    rcases List.mem_cons.1 he with rfl | he
    · exact hφ (b12, true, cel [.map (some M)] 80) (List.Mem.head _)
    rcases List.mem_cons.1 he with rfl | he
    · exact hφ (M, true, hmap (stM L)) (List.Mem.tail _ (List.Mem.head _))
    · exact hφ e (List.Mem.tail _ (List.Mem.tail _ he))
  · intro lb x W
    with_reducible repeat refine xc_seq ?_
    with_reducible refine xc_region ?_
    refine xo_asg rfl rfl rfl ?_
    with_reducible refine xo_nil ?_
    with_reducible repeat (first | refine xq_then ?_ | refine xq_blockN ?_ | refine xq_scopeN ?_)
    exact fun a w1 ha hw1 => ⟨ha.sub ⟨rfl, rfl, trivial⟩, hw1.kx⟩
  · rintro lb ys x _ W _ hlt hW
    with_reducible repeat refine xc_seq ?_
    with_reducible refine xc_block ?_
    with_reducible repeat refine xc_seq ?_
    with_reducible refine xc_region ?_
    refine xo_load0 T_ rfl rfl rfl (by repeat (first | exact List.Mem.head _ | apply List.Mem.tail | apply List.mem_append_right)) rfl rfl ?_
    refine xo_mv rfl rfl rfl ?_
    refine xo_mdel T_ rfl rfl rfl rfl rfl (by repeat (first | exact List.Mem.head _ | apply List.Mem.tail | apply List.mem_append_right)) (hkeys ys) (by repeat (first | exact Upd.head | apply Upd.tail | apply Upd.app)) rfl ?_
    with_reducible refine xo_nil ?_
    with_reducible repeat (first | refine xq_then ?_ | refine xq_blockN ?_ | refine xq_scopeN ?_)
    intro a w1 ha hw1
    exact ⟨(), trivial, by simp only [delL_app]; exact hw1⟩
  rintro D _ _
  have hkk : heldF r l day = (stM (delL L (holdsF r (goneF r l day)))).map (·.1) := by
    rw [heldF, ← hL, ← delL_keys, stM, List.map_map]
    rfl
  have hsort : sortF (heldF r l day) = heldF r l day := sortF_id ((batches_le hs).sublist List.filter_sublist)
  have hids : (heldF r l day).length ≤ r.length := Nat.le_trans (List.length_filter_le _ _) (by have := (batches_sub r).length_le; simpa using this)
  have hmem : ∀ n ∈ heldF r l day, ∃ b, (n, b) ∈ L ∧ imGet n (stM (delL L (holdsF r (goneF r l day)))) = some (.pointer (some ⟨b, 0, none⟩)) := fun n hn => by
    rcases imGet_stM (L := delL L (holdsF r (goneF r l day))) (id := n) with ⟨b, h1, h2⟩ | ⟨h1, _⟩
    · exact ⟨b, (delL_sub L _).subset h1, h2⟩
    · rw [hkk, stM, List.map_map] at hn
      exact absurd hn h1
  have hacc1 : ∀ k, ((((heldF r l day).take k).filter fun n => decide (0 < outF m n)).length : Int) ≤ k ∧ ((((heldF r l day).take k).filter fun n => decide (0 < outF m n)).length : Int) ≤ (heldF r l day).length := fun k => by
    have h1 := List.length_filter_le (fun n => decide (0 < outF m n)) ((heldF r l day).take k)
    rw [List.length_take] at h1
    omega
  have hsucc : ∀ k, k < (heldF r l day).length → (((heldF r l day).take (k + 1)).filter fun n => decide (0 < outF m n)) = (((heldF r l day).take k).filter fun n => decide (0 < outF m n)) ++ (if 0 < outF m ((heldF r l day).getD k 0) then [(heldF r l day).getD k 0] else []) := fun k hk => by
    have h1 : (heldF r l day).getD k 0 = (heldF r l day)[k] := by simp [List.getD_eq_getElem?_getD, List.getElem?_eq_getElem hk]
    rw [List.take_succ_eq_append_getElem hk, List.filter_append, h1]
    congr 1
    by_cases q : 0 < outF m (heldF r l day)[k]
    · simp [q]
    · simp [q]
  with_reducible repeat (first | refine xq_then ?_ | refine xq_blockN ?_ | refine xq_scopeN ?_)
  with_reducible repeat refine xc_seq ?_
  with_reducible refine xc_region ?_
  refine xo_load0 T_ rfl rfl rfl (by repeat (first | exact List.Mem.head _ | apply List.Mem.tail | apply List.mem_append_right)) rfl rfl ?_
  refine xo_call (fs := []) (cs := []) rfl rfl rfl keysM_enters rfl (fun w1 hw1 => (keysM_calls M w1).mono ?_)
  rintro e w2 ⟨BK, rfl, hB1, hB2, hb⟩
  refine ⟨_, _, rfl, hw1.more (φ := cel [.map (some M)] 80) hb hB1 hB2 rfl, ?_⟩
  clear hB1 hB2 hb hw1
  refine xo_call (fs := []) (cs := []) rfl rfl rfl sorted_enters rfl (fun w1 hw1 => (sorted_calls 73 [.pointer (some ⟨BK, 0, none⟩)] keysIterM_enters (fun k => k = BK ∨ k = M) (heldF r l day) (heldF r l day).length w1 (iter_keysM (heldF r l day) _ hkk M BK w1 (hw1.obj (wr := true) (cs := [.map (some M)]) (by repeat (first | exact List.Mem.head _ | apply List.Mem.tail | apply List.mem_append_right))) (hw1.imap (wr := true) (by repeat (first | exact List.Mem.head _ | apply List.Mem.tail | apply List.mem_append_right)))) (fun k hk => hk.elim (fun e => e ▸ hw1.lt (e := (BK, true, cel [.map (some M)] 80)) (by repeat (first | exact List.Mem.head _ | apply List.Mem.tail | apply List.mem_append_right))) (fun e => e ▸ hw1.lt (e := (M, true, hmap (stM (delL L (holdsF r (goneF r l day)))))) (by repeat (first | exact List.Mem.head _ | apply List.Mem.tail | apply List.mem_append_right)))) (by omega) (by omega)).mono ?_)
  rintro e w2 ⟨r11, rfl, hrw, hb⟩
  rw [hsort] at hrw ⊢
  have h11 := hrw.1
  refine ⟨_, _, rfl, hw1.row hb hrw, ?_⟩
  clear hrw hb hw1
  refine xo_lenR T_ rfl rfl (fun h => by rw [h11 h]; rfl) rfl rfl ?_
  refine xo_mv rfl rfl rfl ?_
  with_reducible refine xo_nil ?_
  with_reducible repeat (first | refine xq_then ?_ | refine xq_blockN ?_ | refine xq_scopeN ?_)
  with_reducible repeat refine xc_seq ?_
  with_reducible refine xc_block ?_
  refine xc_sub (η' := (hpR 3 1 r11 (heldF r l day).length ((heldF r l day).map (.int .i64)) ++ ((D, true, hdef) :: ((b12, true, cel [.map (some M)] 80) :: (M, true, hmap (stM (delL L (holdsF r (goneF r l day))))) :: (stH (storeF m) L ++ []))))) (List.Sublist.append (List.Sublist.refl _) (List.sublist_cons_self _ _)) ?_
  refine xc_loop (γ := Nat × RowR) (fun q => q.1 ≤ (heldF r l day).length ∧ (q.2 = none → (((heldF r l day).take q.1).filter fun n => decide (0 < outF m n)) = [])) (fun q => [(12, .pointer (some ⟨b12, 0, none⟩)), (8, valR q.2 (((heldF r l day).take q.1).filter fun n => decide (0 < outF m n)).length), (9, .int .i64 (((((heldF r l day).take q.1).filter fun n => decide (0 < outF m n)).map (outF m)).sum)), (52, valR r11 (heldF r l day).length), (53, .int .i64 ((heldF r l day).length : Int)), (54, .int .i64 (q.1 : Int))])
    (fun q => hpR 3 1 q.2 (((heldF r l day).take q.1).filter fun n => decide (0 < outF m n)).length ((((heldF r l day).take q.1).filter fun n => decide (0 < outF m n)).map (.int .i64)) ++ (hpR 3 1 r11 (heldF r l day).length ((heldF r l day).map (.int .i64)) ++ ((D, true, hdef) :: ((b12, true, cel [.map (some M)] 80) :: (M, true, hmap (stM (delL L (holdsF r (goneF r l day))))) :: (stH (storeF m) L ++ []))))) (fun q => (heldF r l day).length - q.1) (0, none) ⟨Nat.zero_le _, fun _ => rfl⟩ ⟨rfl, rfl, rfl, rfl, rfl, rfl, trivial⟩ (List.Sublist.refl _) ?_
  rintro ⟨k, rr⟩ ⟨hk1, hrr⟩
  simp only at hk1 hrr ⊢
  with_reducible repeat refine xc_seq ?_
  with_reducible refine xc_region ?_
  refine xo_lss rfl rfl rfl rfl ?_
  with_reducible refine xo_nil ?_
  with_reducible repeat (first | refine xq_then ?_ | refine xq_blockN ?_ | refine xq_scopeN ?_)
  with_reducible repeat refine xc_seq ?_
  refine xc_cond rfl (fun h => ?_) (fun h => ?_)
  · have hlt : k < (heldF r l day).length := by have := of_decide_eq_true h; omega
    have hsk := hsucc k hlt
    have hin := getD_mem (heldF r l day) 0 k hlt
    obtain ⟨b, hb1, hb2⟩ := hmem _ hin
    have hBs := count_B hcf ((heldF r l day).getD k 0)
    have hsum := recSum_B hcf (((heldF r l day).take k).filter fun n => decide (0 < outF m n))
    have hac := hacc1 k
    have hxk : ((heldF r l day).map (Value.int .i64))[k]? = some (.int .i64 ((heldF r l day).getD k 0)) := by simp [List.getD_eq_getElem?_getD, List.getElem?_eq_getElem hlt]
    unfold StB at hBs
    with_reducible refine xc_skip ?_
    with_reducible repeat (first | refine xq_then ?_ | refine xq_blockN ?_ | refine xq_scopeN ?_)
    with_reducible repeat refine xc_seq ?_
    with_reducible refine xc_block ?_
    rcases r11 with _ | ⟨g11, cap11⟩
    · rw [h11 rfl] at hlt
      exact absurd hlt (by simp)
    with_reducible repeat refine xc_seq ?_
    with_reducible refine xc_region ?_
    refine xo_ia T_ rfl rfl rfl rfl rfl ⟨by omega, by omega⟩ rfl ?_
    refine xo_loadO (v := .int .i64 ((heldF r l day).getD k 0)) T_ rfl rfl rfl (by repeat (first | exact List.Mem.head _ | exact List.mem_append_left _ (List.Mem.head _) | apply List.mem_append_right | apply List.Mem.tail)) (by simp only [szN, Int.toNat_natCast]; simpa using hxk) rfl ?_
    refine xo_asg rfl rfl rfl ?_
    with_reducible refine xo_nil ?_
    with_reducible repeat (first | refine xq_then ?_ | refine xq_blockN ?_ | refine xq_scopeN ?_)
    with_reducible repeat refine xc_seq ?_
    apply xc_drawN
    · exact T_.mixed
    · rfl
    · rfl
    · rfl
    · rfl
    · apply DrawOps.cons
      · intro τ
        refine xo_load0 T_ rfl rfl rfl (t := 80) (by repeat (first | exact List.Mem.head _ | exact List.mem_append_left _ (List.Mem.head _) | apply List.mem_append_right | apply List.Mem.tail)) rfl rfl ?_
        exact xo_fin rfl
      apply DrawOps.cons
      · intro τ
        refine xo_mv rfl rfl rfl ?_
        exact xo_fin rfl
      apply DrawOps.cons
      · intro τ
        refine xo_look1 T_ rfl rfl rfl rfl rfl rfl (by repeat (first | exact List.Mem.head _ | exact List.mem_append_left _ (List.Mem.head _) | apply List.mem_append_right | apply List.Mem.tail)) (by rw [hb2]) rfl ?_
        exact xo_fin rfl
      apply DrawOps.cons
      · intro τ
        refine xo_nilck rfl rfl rfl ?_
        exact xo_fin rfl
      apply DrawOps.cons
      · intro τ
        refine xo_fa T_ rfl rfl rfl rfl rfl ?_
        exact xo_fin rfl
      apply DrawOps.cons
      · intro τ
        refine xo_load0 T_ rfl rfl rfl (List.mem_append_right _ (List.mem_append_right _ (List.Mem.tail _ (List.Mem.tail _ (List.Mem.tail _ (List.mem_append_left _ (stH_mem hb1))))))) rfl rfl ?_
        exact xo_fin rfl
      apply DrawOps.cons
      · intro τ
        refine xo_load0 T_ rfl rfl rfl (by repeat (first | exact List.Mem.head _ | exact List.mem_append_left _ (List.Mem.head _) | apply List.mem_append_right | apply List.Mem.tail)) rfl rfl ?_
        exact xo_fin rfl
      apply DrawOps.cons
      · intro τ
        refine xo_mv rfl rfl rfl ?_
        exact xo_fin rfl
      apply DrawOps.cons
      · intro τ
        refine xo_look1 T_ rfl rfl rfl rfl rfl rfl (by repeat (first | exact List.Mem.head _ | exact List.mem_append_left _ (List.Mem.head _) | apply List.mem_append_right | apply List.Mem.tail)) (by rw [hb2]) rfl ?_
        exact xo_fin rfl
      apply DrawOps.cons
      · intro τ
        refine xo_nilck rfl rfl rfl ?_
        exact xo_fin rfl
      apply DrawOps.cons
      · intro τ
        refine xo_fa T_ rfl rfl rfl rfl rfl ?_
        exact xo_fin rfl
      apply DrawOps.cons
      · intro τ
        refine xo_load0 T_ rfl rfl rfl (List.mem_append_right _ (List.mem_append_right _ (List.Mem.tail _ (List.Mem.tail _ (List.Mem.tail _ (List.mem_append_left _ (stH_mem hb1))))))) rfl rfl ?_
        exact xo_fin rfl
      apply DrawOps.cons
      · intro τ
        refine xo_sub rfl rfl rfl (by omega) rfl ?_
        exact xo_fin rfl
      apply DrawOps.cons
      · intro τ
        refine xo_asg rfl rfl rfl ?_
        exact xo_fin rfl
      exact DrawOps.nil
    · rfl
    with_reducible repeat (first | refine xq_then ?_ | refine xq_blockN ?_ | refine xq_scopeN ?_)
    with_reducible repeat refine xc_seq ?_
    with_reducible refine xc_region ?_
    refine xo_mv rfl rfl rfl ?_
    refine xo_gtr rfl rfl rfl rfl ?_
    with_reducible refine xo_nil ?_
    with_reducible repeat (first | refine xq_then ?_ | refine xq_blockN ?_ | refine xq_scopeN ?_)
    with_reducible repeat refine xc_seq ?_
    refine xc_cond rfl (fun h0 => ?_) (fun h0 => ?_)
    · have h0 : 0 < outF m ((heldF r l day).getD k 0) := of_decide_eq_true h0
      rw [if_pos h0] at hsk
      have hs9 := congrArg (fun l => (l.map (outF m)).sum) hsk
      simp only [List.map_append, List.sum_append, List.map_cons, List.map_nil, List.sum_cons, List.sum_nil, Int.add_zero] at hs9
      have hs8 := congrArg List.length hsk
      simp only [List.length_append, List.length_cons, List.length_nil, Nat.zero_add] at hs8
      have hs7 := congrArg (fun l => l.map (Value.int .i64)) hsk
      simp only [List.map_append, List.map_cons, List.map_nil] at hs7
      with_reducible repeat refine xc_seq ?_
      with_reducible refine xc_region ?_
      refine xo_mv rfl rfl rfl ?_
      refine xo_mv rfl rfl rfl ?_
      refine xo_bs1 T_ rfl rfl rfl rfl rfl rfl rfl rfl (fun b75 => ?_)
      refine xo_app TR_ rfl rfl rfl rfl rfl rfl rfl rfl (by simp) rfl rfl (fun h => by rw [hrr h]; rfl) (by omega) rfl rfl (fun r' hr' => ?_)
      refine xo_asg rfl rfl rfl ?_
      with_reducible refine xo_nil ?_
      with_reducible repeat (first | refine xq_then ?_ | refine xq_blockN ?_ | refine xq_scopeN ?_)
      with_reducible repeat refine xc_seq ?_
      with_reducible refine xc_region ?_
      refine xo_mv rfl rfl rfl ?_
      refine xo_mv rfl rfl rfl ?_
      refine xo_add rfl rfl rfl (by omega) rfl ?_
      refine xo_asg rfl rfl rfl ?_
      with_reducible refine xo_nil ?_
      with_reducible repeat (first | refine xq_then ?_ | refine xq_blockN ?_ | refine xq_scopeN ?_)
      with_reducible repeat refine xc_seq ?_
      with_reducible refine xc_region ?_
      refine xo_add rfl rfl rfl (by omega) rfl ?_
      refine xo_mv rfl rfl rfl ?_
      with_reducible refine xo_nil ?_
      with_reducible repeat (first | refine xq_then ?_ | refine xq_blockN ?_ | refine xq_scopeN ?_)
      refine xq_again _ _ _ _ _ (k + 1, r') ⟨hlt, fun h => absurd h hr'⟩ (by first | omega | (simp only; omega)) ⟨rfl, by simp only [hs8]; rfl, by simp only [hs9]; rfl, rfl, rfl, rfl, trivial⟩ ?_
      simp only [hs8, hs7]
      exact List.Sublist.refl _
    · have h0 : ¬ 0 < outF m ((heldF r l day).getD k 0) := of_decide_eq_false h0
      rw [if_neg h0, List.append_nil] at hsk
      with_reducible refine xc_skip ?_
      with_reducible repeat (first | refine xq_then ?_ | refine xq_blockN ?_ | refine xq_scopeN ?_)
      with_reducible repeat refine xc_seq ?_
      with_reducible refine xc_region ?_
      refine xo_add rfl rfl rfl (by omega) rfl ?_
      refine xo_mv rfl rfl rfl ?_
      with_reducible refine xo_nil ?_
      with_reducible repeat (first | refine xq_then ?_ | refine xq_blockN ?_ | refine xq_scopeN ?_)
      refine xq_again _ _ _ _ _ (k + 1, rr) ⟨hlt, by rw [hsk]; exact hrr⟩ (by first | omega | (simp only; omega)) ⟨rfl, by simp only [hsk]; rfl, by simp only [hsk]; rfl, rfl, rfl, rfl, trivial⟩ ?_
      simp only [hsk]
      exact List.Sublist.refl _
  · have hge : ¬ k < (heldF r l day).length := by have := of_decide_eq_false h; omega
    have hall : (((heldF r l day).take k).filter fun n => decide (0 < outF m n)) = recallR r l m day := by rw [e2, List.take_of_length_le (by omega)]
    simp only [hall] at hrr ⊢
    with_reducible refine xc_exit ?_
    with_reducible repeat (first | refine xq_blockX ?_ | refine xq_thenE ?_ | refine xq_blockE rfl ?_ | refine xq_scopeE ?_)
    with_reducible repeat (first | refine xq_then ?_ | refine xq_blockN ?_ | refine xq_scopeN ?_)
    with_reducible repeat refine xc_seq ?_
    with_reducible refine xc_region ?_
    refine xo_mv rfl rfl rfl ?_
    refine xo_mv rfl rfl rfl ?_
    refine xo_asg rfl rfl rfl ?_
    refine xo_asg rfl rfl rfl ?_
    refine xo_asg rfl rfl rfl ?_
    with_reducible refine xo_nil ?_
    with_reducible repeat (first | refine xq_then ?_ | refine xq_blockN ?_ | refine xq_scopeN ?_)
    with_reducible repeat refine xc_seq ?_
    with_reducible refine xc_ret ?_
    with_reducible repeat (first | refine xq_thenR ?_ | refine xq_blockR ?_ | refine xq_scopeR ?_)
    refine xq_perm (η' := (D, true, hdef) :: (hpR 3 1 rr (recallR r l m day).length ((recallR r l m day).map (.int .i64)) ++ (hpR 3 1 r11 (heldF r l day).length ((heldF r l day).map (.int .i64)) ++ ((b12, true, cel [.map (some M)] 80) :: (M, true, hmap (stM (delL L (holdsF r (goneF r l day))))) :: (stH (storeF m) L ++ []))))) (by rw [← List.append_assoc, ← List.append_assoc]; exact List.perm_middle) ?_
    exact xq_retM3 rfl rfl rfl rfl fun w' hw => ⟨rr, by rw [e0, ho]; rfl, RowAt.of hw hrr, hw.kx.below⟩
theorem recall_enters : ∀ args w, (callFunc 15 args).run Tryd.prog w = .ok (.enter 15 args) w := enters_of Tryd.func15 (by kernel_rfl) rfl
end Go.Proofs.YtcmepdamemnbkaaDoor
namespace Go.Proofs.YtcmepdamemnbkaaDoor
open Go.RowKit Go.Proofs.YtcmepdamemnbkaaDoorW.PrintWords
set_option linter.unusedVariables false
set_option linter.unusedSimpArgs false
theorem fewest_enters : ∀ args w, (callFunc 61 args).run Tryd.prog w = .ok (.enter 61 args) w := enters_of Tryd.func61 (by kernel_rfl) rfl
/-- the search over a row of a call's -/
theorem fewestR {w0 w : World} {X : Nat → Prop} {η : Hp} (hw : WOK w0 X η w) {rr : RowR} {xs : List Int} (h1 : RowAt 3 0 w rr xs) (p : List Int → Bool) (g : Nat) (cs : List Value) (eg : ∀ args w, (callFunc g args).run Tryd.prog w = .ok (.enter g args) w) (hp : AsksM Tryd.prog w g cs p)
    (hn : xs.Nodup) (hs : xs.Pairwise fun a b => decide (a ≤ b) = true) (hlen : xs.length ≤ 12) :
    Calls Tryd.prog 61 ([] ++ [valR rr xs.length, .func (.func g) #[] cs.toArray] ++ []).toArray w fun e w' => ∃ rr : RowR, e = .returned (valR rr (fewestF xs p).length) ∧ RowAt 3 w.heap.size w' rr (fewestF xs p) ∧ Below w.heap.size w w' := by
  obtain ⟨A, c, e1, _, hA⟩ := h1.C (by omega)
  rw [e1]
  exact fewest_calls p g cs eg A c xs w hA hp hn hs hlen
set_option maxHeartbeats 8000000 in
theorem trustRests_calls (A B : Option Addr) (c c' : Nat) (r : List RecT) (l : List LetT) (day id : Int) (w : World) (hr : Kd.C recK w A r.length r) (hl : Kd.C letK w B l.length l) (hk : Bytes r) (hkl : BytesL l) :
    Calls Tryd.prog 30 #[.slice A r.length c, .slice B l.length c', .int .i64 day, .int .i64 id] w fun e w' => ∃ rr : RowR, e = .returned (.tuple #[valR rr (refRestsR r l day id).length, .int .i64 (refRestsC r l day id)]) ∧ RowAt 3 w.heap.size w' rr (refRestsR r l day id) ∧ Below w.heap.size w w' := by
  refine x_calls (X := XNone) Tryd.func30 rfl rfl rfl ?_
  with_reducible repeat refine xc_seq ?_
  with_reducible refine xc_region ?_
  refine xo_box rfl rfl rfl rfl (fun b4 => ?_)
  refine xo_box rfl rfl rfl rfl (fun b7 => ?_)
  refine xo_asg rfl rfl rfl ?_
  refine xo_asg rfl rfl rfl ?_
  with_reducible refine xo_nil ?_
  with_reducible repeat (first | refine xq_then ?_ | refine xq_blockN ?_ | refine xq_scopeN ?_)
  by_cases ho : openF r l day [id] = 0
  rotate_left
  · have hd : (!decide (openF r l day [id] = 0)) = true := by simp [ho]
    have e1 : refRestsR r l day id = [] := by rw [refRestsR, if_neg (fun h => ho h.1)]
    have e2 : refRestsC r l day id = openF r l day [id] := by rw [refRestsC, if_neg ho]
    with_reducible repeat refine xc_seq ?_
    with_reducible refine xc_region ?_
    refine xo_load0 T_ rfl rfl rfl (by repeat (first | exact List.Mem.head _ | apply List.Mem.tail | apply List.mem_append_right)) rfl rfl ?_
    refine xo_mv rfl rfl rfl ?_
    refine xo_mv rfl rfl rfl ?_
    refine xo_load0 T_ rfl rfl rfl (by repeat (first | exact List.Mem.head _ | apply List.Mem.tail | apply List.mem_append_right)) rfl rfl ?_
    refine xo_bs1 T_ rfl rfl rfl rfl rfl rfl rfl rfl (fun b19 => ?_)
    refine xo_call (fs := []) (cs := []) rfl rfl rfl open_enters rfl (fun w1 hw1 => (open_calls A B (some ⟨b19, 0, none⟩) c c' 1 r l day [id] w1 (Kd.C_below hr hw1.kx.below) (Kd.C_below hl hw1.kx.below) (C_cel hw1 (xs := [id]) (List.Mem.head _) (by simp)) hk hkl).mono ?_)
    rintro e w2 ⟨sv, rfl, hb, hne, h0⟩
    obtain rfl := hne ho
    refine ⟨_, _, rfl, hw1.below hb, ?_⟩
    clear hb hne h0 hw1
    refine xo_mv rfl rfl rfl ?_
    refine xo_ext rfl rfl rfl rfl ?_
    refine xo_ext rfl rfl rfl rfl ?_
    refine xo_alloc T_ rfl rfl rfl rfl (fun b10 => ?_)
    refine xo_store T_ rfl rfl rfl rfl (by repeat (first | exact List.Mem.head _ | apply List.Mem.tail | apply List.mem_append_right)) rfl rfl rfl rfl (by repeat (first | exact Upd.head | apply Upd.tail | apply Upd.app)) rfl ?_
    refine xo_asg rfl rfl rfl ?_
    with_reducible refine xo_nil ?_
    with_reducible repeat (first | refine xq_then ?_ | refine xq_blockN ?_ | refine xq_scopeN ?_)
    with_reducible repeat refine xc_seq ?_
    with_reducible refine xc_region ?_
    refine xo_mv rfl rfl rfl ?_
    refine xo_neq rfl rfl rfl rfl ?_
    refine xo_as (i := 24) rfl (congrArg Value.bool hd) ?_
    with_reducible refine xo_nil ?_
    with_reducible repeat (first | refine xq_then ?_ | refine xq_blockN ?_ | refine xq_scopeN ?_)
    with_reducible repeat refine xc_seq ?_
    refine xc_condT rfl ?_
    with_reducible repeat refine xc_seq ?_
    with_reducible refine xc_region ?_
    refine xo_mv rfl rfl rfl ?_
    refine xo_asg rfl rfl rfl ?_
    refine xo_asg rfl rfl rfl ?_
    with_reducible refine xo_nil ?_
    with_reducible repeat (first | refine xq_then ?_ | refine xq_blockN ?_ | refine xq_scopeN ?_)
    with_reducible repeat refine xc_seq ?_
    with_reducible refine xc_ret ?_
    with_reducible repeat (first | refine xq_thenR ?_ | refine xq_blockR ?_ | refine xq_scopeR ?_)
    refine xq_ret2 rfl rfl rfl fun w' hw => ⟨none, by rw [e1, e2]; rfl, ?_, hw.kx.below⟩
    rw [e1]
    exact ⟨fun _ => rfl, fun p hp => by cases hp⟩
  have hd : (!decide (openF r l day [id] = 0)) = false := by simp [ho]
  obtain ⟨hok, hkn⟩ := refOpen_zero ho
  have hlen := recorded_len hok
  have hsrt := sorted_of hok
  have hsub := holdsF_sub hsrt (goneF r l day)
  have hll := holdsF_len r (goneF r l day)
  with_reducible repeat refine xc_seq ?_
  with_reducible refine xc_region ?_
  refine xo_load0 T_ rfl rfl rfl (by repeat (first | exact List.Mem.head _ | apply List.Mem.tail | apply List.mem_append_right)) rfl rfl ?_
  refine xo_mv rfl rfl rfl ?_
  refine xo_mv rfl rfl rfl ?_
  refine xo_load0 T_ rfl rfl rfl (by repeat (first | exact List.Mem.head _ | apply List.Mem.tail | apply List.mem_append_right)) rfl rfl ?_
  refine xo_bs1 T_ rfl rfl rfl rfl rfl rfl rfl rfl (fun b19 => ?_)
  refine xo_call (fs := []) (cs := []) rfl rfl rfl open_enters rfl (fun w1 hw1 => (open_calls A B (some ⟨b19, 0, none⟩) c c' 1 r l day [id] w1 (Kd.C_below hr hw1.kx.below) (Kd.C_below hl hw1.kx.below) (C_cel hw1 (xs := [id]) (List.Mem.head _) (by simp)) hk hkl).mono ?_)
  rintro e w2 ⟨sv, rfl, hb, hne, h0⟩
  obtain ⟨M, rfl, hM1, hM2⟩ := h0 ho
  obtain ⟨oM, hM3, hM4⟩ := hmap_of hM2
  refine ⟨_, _, rfl, hw1.more hb hM1 hM3 hM4, ?_⟩
  clear hb hM2 hM3 hM4 hne h0 hM1 hw1
  refine xo_mv rfl rfl rfl ?_
  refine xo_ext rfl rfl rfl rfl ?_
  refine xo_ext rfl rfl rfl rfl ?_
  refine xo_alloc T_ rfl rfl rfl rfl (fun b10 => ?_)
  refine xo_store T_ rfl rfl rfl rfl (by repeat (first | exact List.Mem.head _ | apply List.Mem.tail | apply List.mem_append_right)) rfl rfl rfl rfl (by repeat (first | exact Upd.head | apply Upd.tail | apply Upd.app)) rfl ?_
  refine xo_asg rfl rfl rfl ?_
  with_reducible refine xo_nil ?_
  with_reducible repeat (first | refine xq_then ?_ | refine xq_blockN ?_ | refine xq_scopeN ?_)
  with_reducible repeat refine xc_seq ?_
  with_reducible refine xc_region ?_
  refine xo_mv rfl rfl rfl ?_
  refine xo_neq rfl rfl rfl rfl ?_
  refine xo_as (i := 24) rfl (congrArg Value.bool hd) ?_
  with_reducible refine xo_nil ?_
  with_reducible repeat (first | refine xq_then ?_ | refine xq_blockN ?_ | refine xq_scopeN ?_)
  with_reducible repeat refine xc_seq ?_
  refine xc_condF rfl ?_
  with_reducible refine xc_skip ?_
  with_reducible repeat (first | refine xq_then ?_ | refine xq_blockN ?_ | refine xq_scopeN ?_)
  with_reducible repeat refine xc_seq ?_
  with_reducible refine xc_region ?_
  refine xo_loadN T_ rfl rfl rfl (by repeat (first | exact List.Mem.head _ | apply List.Mem.tail | apply List.mem_append_right)) rfl rfl ?_
  refine xo_fa T_ rfl rfl rfl rfl rfl ?_
  refine xo_load0 T_ rfl rfl rfl (by repeat (first | exact List.Mem.head _ | apply List.Mem.tail | apply List.mem_append_right)) rfl rfl ?_
  refine xo_holds rfl rfl rfl rfl (fun b2 b3 => ?_)
  refine xo_collect (r := r) hr (by omega) rfl rfl (by repeat (first | exact List.Mem.head _ | apply List.Mem.tail | apply List.mem_append_right)) (by repeat (first | exact List.Mem.head _ | apply List.Mem.tail | apply List.mem_append_right)) (by repeat (first | exact List.Mem.head _ | apply List.Mem.tail | apply List.mem_append_right)) (fun w1 hw1 => ne_of_nd hw1) rfl (fun rr hrr => ?_)
  refine xo_asg rfl rfl rfl ?_
  with_reducible refine xo_nil ?_
  with_reducible repeat (first | refine xq_then ?_ | refine xq_blockN ?_ | refine xq_scopeN ?_)
  with_reducible repeat refine xc_seq ?_
  with_reducible refine xc_region ?_
  refine xo_mv rfl rfl rfl ?_
  refine xo_load0 T_ rfl rfl rfl (by repeat (first | exact List.Mem.head _ | apply List.Mem.tail | apply List.mem_append_right)) rfl rfl ?_
  refine xo_callB (fs := []) (cs := []) rfl rfl rfl contains_enters rfl (fun w1 hw1 => containsR hw1 id (by omega) (hw1.rowAt hrr (fun p hp => by subst hp; exact (by repeat (first | exact List.Mem.head _ | exact List.mem_append_left _ (List.Mem.head _) | apply List.mem_append_right | apply List.Mem.tail))))) ?_
  refine xo_notOp rfl rfl rfl ?_
  with_reducible refine xo_nil ?_
  with_reducible repeat (first | refine xq_then ?_ | refine xq_blockN ?_ | refine xq_scopeN ?_)
  with_reducible repeat refine xc_seq ?_
  refine xc_cond rfl (fun hin => ?_) (fun hin => ?_)
  · have hin : id ∉ holdsF r (goneF r l day) := by simpa using hin
    have e1 : refRestsR r l day id = [] := by rw [refRestsR, if_neg (fun h => hin h.2)]
    have e2 : refRestsC r l day id = 8 := by rw [refRestsC, if_pos ho, if_neg hin]
    with_reducible repeat refine xc_seq ?_
    with_reducible refine xc_region ?_
    refine xo_asg rfl rfl rfl ?_
    refine xo_asg rfl rfl rfl ?_
    with_reducible refine xo_nil ?_
    with_reducible repeat (first | refine xq_then ?_ | refine xq_blockN ?_ | refine xq_scopeN ?_)
    with_reducible repeat refine xc_seq ?_
    with_reducible refine xc_ret ?_
    with_reducible repeat (first | refine xq_thenR ?_ | refine xq_blockR ?_ | refine xq_scopeR ?_)
    refine xq_ret2 rfl rfl rfl fun w' hw => ⟨none, by rw [e1, e2]; rfl, ?_, hw.kx.below⟩
    rw [e1]
    exact ⟨fun _ => rfl, fun p hp => by cases hp⟩
  have hin : id ∈ holdsF r (goneF r l day) := by simpa using hin
  have e1 := restsR_eq ho hin
  have e2 : refRestsC r l day id = 0 := by rw [refRestsC, if_pos ho, if_pos hin]
  with_reducible refine xc_skip ?_
  with_reducible repeat (first | refine xq_then ?_ | refine xq_blockN ?_ | refine xq_scopeN ?_)
  with_reducible repeat refine xc_seq ?_
  with_reducible refine xc_region ?_
  refine xo_mkf rfl rfl rfl rfl ?_
  refine xo_asg rfl rfl rfl ?_
  with_reducible refine xo_nil ?_
  with_reducible repeat (first | refine xq_then ?_ | refine xq_blockN ?_ | refine xq_scopeN ?_)
  with_reducible repeat refine xc_seq ?_
  with_reducible refine xc_region ?_
  refine xo_mv rfl rfl rfl ?_
  refine xo_mv rfl rfl rfl ?_
  refine xo_call (fs := []) (cs := []) rfl rfl rfl fewest_enters rfl (fun w1 hw1 => (fewestR hw1 (hw1.rowAt hrr (fun p hp => by subst hp; exact (by repeat (first | exact List.Mem.head _ | exact List.mem_append_left _ (List.Mem.head _) | apply List.mem_append_right | apply List.Mem.tail)))) (restP r id) 60 [.pointer (some ⟨b4, 0, none⟩), .pointer (some ⟨b7, 0, none⟩), .pointer (some ⟨b10, 0, none⟩)] rests1_enters (fun S M2 W hW hM2 hI hS => rests1_calls A c r id M b4 b7 b10 M2 S W (Kd.C_below hr (hw1.below hW).kx.below) (by omega) ((hw1.below hW).cell (by repeat (first | exact List.Mem.head _ | exact List.mem_append_left _ (List.Mem.head _) | apply List.mem_append_right | apply List.Mem.tail)) 0 rfl) ((hw1.below hW).cell (by repeat (first | exact List.Mem.head _ | exact List.mem_append_left _ (List.Mem.head _) | apply List.mem_append_right | apply List.Mem.tail)) 0 rfl) ((hw1.below hW).obj (by repeat (first | exact List.Mem.head _ | exact List.mem_append_left _ (List.Mem.head _) | apply List.mem_append_right | apply List.Mem.tail))) hI hS) (hsub.nodup (idsL_nodup hsrt)) (sub_le hsrt hsub) (by omega)).mono ?_)
  rintro e w2 ⟨r8, rfl, hrow, hb⟩
  have h08 := hrow.1
  refine ⟨_, _, rfl, hw1.row hb hrow, ?_⟩
  clear hrow hb hw1
  refine xo_asg rfl rfl rfl ?_
  refine xo_asg rfl rfl rfl ?_
  with_reducible refine xo_nil ?_
  with_reducible repeat (first | refine xq_then ?_ | refine xq_blockN ?_ | refine xq_scopeN ?_)
  with_reducible repeat refine xc_seq ?_
  with_reducible refine xc_ret ?_
  with_reducible repeat (first | refine xq_thenR ?_ | refine xq_blockR ?_ | refine xq_scopeR ?_)
  refine xq_ret2 rfl rfl rfl fun w' hw => ⟨r8, by rw [e1, e2], ?_, hw.kx.below⟩
  rw [e1]
  exact RowAt.of hw h08
theorem trustRests_enters : ∀ args w, (callFunc 30 args).run Tryd.prog w = .ok (.enter 30 args) w := enters_of Tryd.func30 (by kernel_rfl) rfl
end Go.Proofs.YtcmepdamemnbkaaDoor
namespace Go.Proofs.YtcmepdamemnbkaaDoor
open Go.RowKit Go.Proofs.YtcmepdamemnbkaaDoorW.PrintWords
set_option linter.unusedVariables false
set_option linter.unusedSimpArgs false
set_option maxHeartbeats 8000000 in
theorem trustCauses_calls (A B : Option Addr) (c c' : Nat) (r : List RecT) (l : List LetT) (day id : Int) (w : World) (hr : Kd.C recK w A r.length r) (hl : Kd.C letK w B l.length l) (hk : Bytes r) (hkl : BytesL l) :
    Calls Tryd.prog 31 #[.slice A r.length c, .slice B l.length c', .int .i64 day, .int .i64 id] w fun e w' => ∃ rr : RowR, e = .returned (.tuple #[valR rr (refCausesR r l day id).length, .int .i64 (refCausesC r l day id)]) ∧ RowAt 3 w.heap.size w' rr (refCausesR r l day id) ∧ Below w.heap.size w w' := by
  refine x_calls (X := XNone) Tryd.func31 rfl rfl rfl ?_
  with_reducible repeat refine xc_seq ?_
  with_reducible refine xc_region ?_
  refine xo_box rfl rfl rfl rfl (fun b7 => ?_)
  refine xo_asg rfl rfl rfl ?_
  refine xo_asg rfl rfl rfl ?_
  with_reducible refine xo_nil ?_
  with_reducible repeat (first | refine xq_then ?_ | refine xq_blockN ?_ | refine xq_scopeN ?_)
  by_cases ho : openF r l day [id] = 0
  rotate_left
  · have hd : (!decide (openF r l day [id] = 0)) = true := by simp [ho]
    have e1 : refCausesR r l day id = [] := by rw [refCausesR, if_neg (fun h => ho h.1)]
    have e2 : refCausesC r l day id = openF r l day [id] := by rw [refCausesC, if_neg ho]
    with_reducible repeat refine xc_seq ?_
    with_reducible refine xc_region ?_
    refine xo_mv rfl rfl rfl ?_
    refine xo_mv rfl rfl rfl ?_
    refine xo_mv rfl rfl rfl ?_
    refine xo_load0 T_ rfl rfl rfl (by repeat (first | exact List.Mem.head _ | apply List.Mem.tail | apply List.mem_append_right)) rfl rfl ?_
    refine xo_bs1 T_ rfl rfl rfl rfl rfl rfl rfl rfl (fun b18 => ?_)
    refine xo_call (fs := []) (cs := []) rfl rfl rfl open_enters rfl (fun w1 hw1 => (open_calls A B (some ⟨b18, 0, none⟩) c c' 1 r l day [id] w1 (Kd.C_below hr hw1.kx.below) (Kd.C_below hl hw1.kx.below) (C_cel hw1 (xs := [id]) (List.Mem.head _) (by simp)) hk hkl).mono ?_)
    rintro e w2 ⟨sv, rfl, hb, hne, h0⟩
    obtain rfl := hne ho
    refine ⟨_, _, rfl, hw1.below hb, ?_⟩
    clear hb hne h0 hw1
    refine xo_mv rfl rfl rfl ?_
    refine xo_ext rfl rfl rfl rfl ?_
    refine xo_ext rfl rfl rfl rfl ?_
    refine xo_alloc T_ rfl rfl rfl rfl (fun b10 => ?_)
    refine xo_store T_ rfl rfl rfl rfl (by repeat (first | exact List.Mem.head _ | apply List.Mem.tail | apply List.mem_append_right)) rfl rfl rfl rfl (by repeat (first | exact Upd.head | apply Upd.tail | apply Upd.app)) rfl ?_
    refine xo_asg rfl rfl rfl ?_
    with_reducible refine xo_nil ?_
    with_reducible repeat (first | refine xq_then ?_ | refine xq_blockN ?_ | refine xq_scopeN ?_)
    with_reducible repeat refine xc_seq ?_
    with_reducible refine xc_region ?_
    refine xo_mv rfl rfl rfl ?_
    refine xo_neq rfl rfl rfl rfl ?_
    refine xo_as (i := 23) rfl (congrArg Value.bool hd) ?_
    with_reducible refine xo_nil ?_
    with_reducible repeat (first | refine xq_then ?_ | refine xq_blockN ?_ | refine xq_scopeN ?_)
    with_reducible repeat refine xc_seq ?_
    refine xc_condT rfl ?_
    with_reducible repeat refine xc_seq ?_
    with_reducible refine xc_region ?_
    refine xo_mv rfl rfl rfl ?_
    refine xo_asg rfl rfl rfl ?_
    refine xo_asg rfl rfl rfl ?_
    with_reducible refine xo_nil ?_
    with_reducible repeat (first | refine xq_then ?_ | refine xq_blockN ?_ | refine xq_scopeN ?_)
    with_reducible repeat refine xc_seq ?_
    with_reducible refine xc_ret ?_
    with_reducible repeat (first | refine xq_thenR ?_ | refine xq_blockR ?_ | refine xq_scopeR ?_)
    refine xq_ret2 rfl rfl rfl fun w' hw => ⟨none, by rw [e1, e2]; rfl, ?_, hw.kx.below⟩
    rw [e1]
    exact ⟨fun _ => rfl, fun p hp => by cases hp⟩
  have hd : (!decide (openF r l day [id] = 0)) = false := by simp [ho]
  obtain ⟨hok, hkn⟩ := refOpen_zero ho
  have hlen := recorded_len hok
  have hsrt := sorted_of hok
  have hsub := holdsF_sub hsrt (goneF r l day)
  have hll := holdsF_len r (goneF r l day)
  with_reducible repeat refine xc_seq ?_
  with_reducible refine xc_region ?_
  refine xo_mv rfl rfl rfl ?_
  refine xo_mv rfl rfl rfl ?_
  refine xo_mv rfl rfl rfl ?_
  refine xo_load0 T_ rfl rfl rfl (by repeat (first | exact List.Mem.head _ | apply List.Mem.tail | apply List.mem_append_right)) rfl rfl ?_
  refine xo_bs1 T_ rfl rfl rfl rfl rfl rfl rfl rfl (fun b18 => ?_)
  refine xo_call (fs := []) (cs := []) rfl rfl rfl open_enters rfl (fun w1 hw1 => (open_calls A B (some ⟨b18, 0, none⟩) c c' 1 r l day [id] w1 (Kd.C_below hr hw1.kx.below) (Kd.C_below hl hw1.kx.below) (C_cel hw1 (xs := [id]) (List.Mem.head _) (by simp)) hk hkl).mono ?_)
  rintro e w2 ⟨sv, rfl, hb, hne, h0⟩
  obtain ⟨M, rfl, hM1, hM2⟩ := h0 ho
  obtain ⟨oM, hM3, hM4⟩ := hmap_of hM2
  refine ⟨_, _, rfl, hw1.more hb hM1 hM3 hM4, ?_⟩
  clear hb hM2 hM3 hM4 hne h0 hM1 hw1
  refine xo_mv rfl rfl rfl ?_
  refine xo_ext rfl rfl rfl rfl ?_
  refine xo_ext rfl rfl rfl rfl ?_
  refine xo_alloc T_ rfl rfl rfl rfl (fun b10 => ?_)
  refine xo_store T_ rfl rfl rfl rfl (by repeat (first | exact List.Mem.head _ | apply List.Mem.tail | apply List.mem_append_right)) rfl rfl rfl rfl (by repeat (first | exact Upd.head | apply Upd.tail | apply Upd.app)) rfl ?_
  refine xo_asg rfl rfl rfl ?_
  with_reducible refine xo_nil ?_
  with_reducible repeat (first | refine xq_then ?_ | refine xq_blockN ?_ | refine xq_scopeN ?_)
  with_reducible repeat refine xc_seq ?_
  with_reducible refine xc_region ?_
  refine xo_mv rfl rfl rfl ?_
  refine xo_neq rfl rfl rfl rfl ?_
  refine xo_as (i := 23) rfl (congrArg Value.bool hd) ?_
  with_reducible refine xo_nil ?_
  with_reducible repeat (first | refine xq_then ?_ | refine xq_blockN ?_ | refine xq_scopeN ?_)
  with_reducible repeat refine xc_seq ?_
  refine xc_condF rfl ?_
  with_reducible refine xc_skip ?_
  with_reducible repeat (first | refine xq_then ?_ | refine xq_blockN ?_ | refine xq_scopeN ?_)
  have hgsub := goneF_sub hsrt l day
  have hgn := hgsub.nodup (idsL_nodup hsrt)
  have hgl := hgsub.length_le
  have hgl2 : (idsL r).length = r.length := by simp [idsL]
  have hsort := sortF_id (sub_le hsrt hgsub)
  with_reducible repeat refine xc_seq ?_
  apply xc_drawE (fun g => [(3, .func (.func 70) #[] #[.pointer (some ⟨(g.getD 0 gv0).b, 0, none⟩), .pointer (some ⟨(g.getD 0 gv0).c, 0, none⟩)]), (4, valR (g.getD 1 gv0).rr (holdsF r (goneF r l day)).length)]) (fun (η0 : Hp) g => match g with | [] => (η0) | a0 :: [] => ((a0.c, true, cel [.map (some M)] 62) :: (a0.b, true, cel [.slice A r.length c, .map (some M)] 91) :: η0) | a0 :: a1 :: _ => (hpR 3 1 a1.rr (holdsF r (goneF r l day)).length ((holdsF r (goneF r l day)).map (.int .i64)) ++ ((a0.c, true, cel [.map (some M)] 62) :: (a0.b, true, cel [.slice A r.length c, .map (some M)] 91) :: η0))) (fun g => match g with | _ :: a1 :: _ => (a1.rr = none → holdsF r (goneF r l day) = []) | _ => True) [0, 0, 0, 1, 2, 0, 2] [3, 4] [[0, 2], [3, 3]] (by trivial)
  apply SameLen.cons
  apply SameLen.cons
  apply SameLen.cons
  apply SameLen.cons (c := undef)
  apply SameLen.cons (c := undef)
  apply SameLen.cons
  apply SameLen.cons
  exact SameLen.nil
  rotate_left 5
  case hH0 => rfl
  case hmix => exact T_.mixed
  case hbind => rfl
  case hdeps => rfl
  case hdist => rfl
  case hfresh => rfl
  case hE => rfl
  case hEn => decide
  · refine DrawE.pure 0 0 rfl (.inr (by decide)) (fun L g hg hd => Nat.zero_le _) (fun g hlo hhi hF τ => ?_) ?_
    · rcases g with _ | ⟨a0, _ | ⟨a1, _ | ⟨a2, g⟩⟩⟩
      all_goals first
        | (exfalso; simp only [List.length_cons, List.length_nil] at hlo hhi; omega)
        | (refine ⟨_, rfl, ?_⟩
           refine xo_loadN T_ rfl rfl rfl (by repeat (first | exact List.Mem.head _ | apply List.Mem.tail | apply List.mem_append_right)) rfl rfl ?_
           exact xo_fin rfl)
    refine DrawE.pure 0 2 rfl (.inl rfl) (fun L g hg hd => Nat.zero_le _) (fun g hlo hhi hF τ => ?_) ?_
    · rcases g with _ | ⟨a0, _ | ⟨a1, _ | ⟨a2, g⟩⟩⟩
      all_goals first
        | (exfalso; simp only [List.length_cons, List.length_nil] at hlo hhi; omega)
        | (refine ⟨_, rfl, ?_⟩
           refine xo_fa T_ rfl rfl rfl rfl rfl ?_
           exact xo_fin rfl)
    refine DrawE.pure 0 0 rfl (.inr (by decide)) (fun L g hg hd => Nat.zero_le _) (fun g hlo hhi hF τ => ?_) ?_
    · rcases g with _ | ⟨a0, _ | ⟨a1, _ | ⟨a2, g⟩⟩⟩
      all_goals first
        | (exfalso; simp only [List.length_cons, List.length_nil] at hlo hhi; omega)
        | (refine ⟨_, rfl, ?_⟩
           refine xo_load0 T_ rfl rfl rfl (by repeat (first | exact List.Mem.head _ | apply List.Mem.tail | apply List.mem_append_right)) rfl rfl ?_
           exact xo_fin rfl)
    refine DrawE.eff 0 rfl (by decide) rfl (fun j hj => hj) (fun j g a hj => ?_) (fun L g hg hd => Nat.zero_le _) (fun g hgl hF τ => ?_) ?_
    · rcases j with _ | _ | _ | _ | _ | _ | _ | j
      all_goals first | rfl | (rcases g with _ | ⟨a0, _ | ⟨a1, _ | ⟨a2, g⟩⟩⟩ <;> first | rfl | exact absurd hj (by decide) | exact absurd hj (by simp [List.getD]))
    · obtain rfl : g = [] := by
        rcases g with _ | ⟨a0, g⟩ <;> first | rfl | (exfalso; simp only [List.length_cons, List.length_nil] at hgl; omega)
      refine xo_holds rfl rfl rfl rfl (fun b2 b3 => ?_)
      exact xo_finE ⟨b2, b3, none⟩ rfl trivial
    refine DrawE.eff 1 rfl (by decide) rfl (fun j hj => hj) (fun j g a hj => ?_) (fun L g hg hd => hg.2.1 3 (hd 3 (by decide))) (fun g hgl hF τ => ?_) ?_
    · rcases j with _ | _ | _ | _ | _ | _ | _ | j
      all_goals first | rfl | (rcases g with _ | ⟨a0, _ | ⟨a1, _ | ⟨a2, g⟩⟩⟩ <;> first | rfl | exact absurd hj (by decide) | exact absurd hj (by simp [List.getD]))
    · obtain ⟨a0, rfl⟩ : ∃ a0, g = [a0] := by
        rcases g with _ | ⟨a0, _ | ⟨a1, _ | ⟨a2, g⟩⟩⟩ <;> first | exact ⟨_, rfl⟩ | rfl | (exfalso; simp only [List.length_cons, List.length_nil] at hgl; omega)
      refine xo_collect (r := r) hr (by omega) rfl rfl (by repeat (first | exact List.Mem.head _ | apply List.Mem.tail | apply List.mem_append_right)) (by repeat (first | exact List.Mem.head _ | apply List.Mem.tail | apply List.mem_append_right)) (by repeat (first | exact List.Mem.head _ | apply List.Mem.tail | apply List.mem_append_right)) (fun w1 hw1 => ne_of_nd hw1) rfl (fun rr hrr => ?_)
      exact xo_finE ⟨0, 0, rr⟩ rfl hrr
    refine DrawE.pure 0 2 rfl (.inl rfl) (fun L g hg hd => Nat.zero_le _) (fun g hlo hhi hF τ => ?_) ?_
    · rcases g with _ | ⟨a0, _ | ⟨a1, _ | ⟨a2, g⟩⟩⟩
      all_goals first
        | (exfalso; simp only [List.length_cons, List.length_nil] at hlo hhi; omega)
        | (refine ⟨_, rfl, ?_⟩
           refine xo_load0 T_ rfl rfl rfl (by repeat (first | exact List.Mem.head _ | apply List.Mem.tail | apply List.mem_append_right)) rfl rfl ?_
           exact xo_fin rfl)
    refine DrawE.pure 2 2 rfl (.inl rfl) (fun L g hg hd => hg.2.1 4 (hd 4 (by decide))) (fun g hlo hhi hF τ => ?_) ?_
    · rcases g with _ | ⟨a0, _ | ⟨a1, _ | ⟨a2, g⟩⟩⟩
      all_goals first
        | (exfalso; simp only [List.length_cons, List.length_nil] at hlo hhi; omega)
        | (refine ⟨_, rfl, ?_⟩
           refine xo_callB (fs := []) (cs := []) rfl rfl rfl contains_enters rfl (fun w1 hw1 => containsR hw1 id (by omega) (hw1.rowAt (rr := a1.rr) hF (fun p hp => List.mem_append_left _ (by rw [hp]; exact List.Mem.head _)))) ?_
           exact xo_fin rfl)
    exact DrawE.nil
  intro g hgl hF
  obtain ⟨a0, a1, rfl⟩ : ∃ a0 a1, g = [a0, a1] := by
    rcases g with _ | ⟨a0, _ | ⟨a1, _ | ⟨a2, g⟩⟩⟩ <;> first | exact ⟨_, _, rfl⟩ | (exfalso; simp only [List.length_cons, List.length_nil] at hgl; omega)
  with_reducible repeat (first | refine xq_then ?_ | refine xq_blockN ?_ | refine xq_scopeN ?_)
  generalize a1.rr = rr at *
  with_reducible repeat refine xc_seq ?_
  refine xc_cond rfl (fun hin => ?_) (fun hin => ?_)
  · have hin : id ∈ holdsF r (goneF r l day) := by simpa using hin
    have e1 : refCausesR r l day id = [] := by rw [refCausesR, if_neg (fun h => h.2 hin)]
    have e2 : refCausesC r l day id = 8 := by rw [refCausesC, if_pos ho, if_pos hin]
    with_reducible repeat refine xc_seq ?_
    with_reducible refine xc_region ?_
    refine xo_asg rfl rfl rfl ?_
    refine xo_asg rfl rfl rfl ?_
    with_reducible refine xo_nil ?_
    with_reducible repeat (first | refine xq_then ?_ | refine xq_blockN ?_ | refine xq_scopeN ?_)
    with_reducible repeat refine xc_seq ?_
    with_reducible refine xc_ret ?_
    with_reducible repeat (first | refine xq_thenR ?_ | refine xq_blockR ?_ | refine xq_scopeR ?_)
    refine xq_ret2 rfl rfl rfl fun w' hw => ⟨none, by rw [e1, e2]; rfl, ?_, hw.kx.below⟩
    rw [e1]
    exact ⟨fun _ => rfl, fun p hp => by cases hp⟩
  have hin : id ∉ holdsF r (goneF r l day) := by simpa using hin
  have e1 := causesR_eq ho hin
  have e2 : refCausesC r l day id = 0 := by rw [refCausesC, if_pos ho, if_neg hin]
  with_reducible refine xc_skip ?_
  with_reducible repeat (first | refine xq_then ?_ | refine xq_blockN ?_ | refine xq_scopeN ?_)
  with_reducible repeat refine xc_seq ?_
  with_reducible refine xc_region ?_
  refine xo_mkf rfl rfl rfl rfl ?_
  refine xo_asg rfl rfl rfl ?_
  with_reducible refine xo_nil ?_
  with_reducible repeat (first | refine xq_then ?_ | refine xq_blockN ?_ | refine xq_scopeN ?_)
  with_reducible repeat refine xc_seq ?_
  with_reducible refine xc_region ?_
  refine xo_fa T_ rfl rfl rfl rfl rfl ?_
  refine xo_load0 T_ rfl rfl rfl (by repeat (first | exact List.Mem.head _ | apply List.Mem.tail | apply List.mem_append_right)) rfl rfl ?_
  refine xo_call (fs := []) (cs := []) rfl rfl rfl keys_enters rfl (fun w1 hw1 => (keys_calls M w1).mono ?_)
  rintro e w2 ⟨BK, rfl, hB1, hB2, hb⟩
  refine ⟨_, _, rfl, hw1.more (φ := cel [.map (some M)] 62) hb hB1 hB2 rfl, ?_⟩
  clear hB1 hB2 hb hw1
  refine xo_call (fs := []) (cs := []) rfl rfl rfl sorted_enters rfl (fun w1 hw1 => (sorted_calls 78 [.pointer (some ⟨BK, 0, none⟩)] keysIter_enters (fun k => k = BK ∨ k = M) (goneF r l day) (goneF r l day).length w1 (iter_keys (goneF r l day) M BK w1 (hw1.obj (wr := true) (cs := [.map (some M)]) (by repeat (first | exact List.Mem.head _ | exact List.mem_append_left _ (List.Mem.head _) | apply List.mem_append_right | apply List.Mem.tail))) (hw1.imap (wr := true) (by repeat (first | exact List.Mem.head _ | exact List.mem_append_left _ (List.Mem.head _) | apply List.mem_append_right | apply List.Mem.tail)))) (fun k hk => hk.elim (fun e => e ▸ hw1.lt (e := (BK, true, cel [.map (some M)] 62)) (by repeat (first | exact List.Mem.head _ | exact List.mem_append_left _ (List.Mem.head _) | apply List.mem_append_right | apply List.Mem.tail))) (fun e => e ▸ hw1.lt (e := (M, true, hmap (setV (goneF r l day)))) (by repeat (first | exact List.Mem.head _ | exact List.mem_append_left _ (List.Mem.head _) | apply List.mem_append_right | apply List.Mem.tail)))) (by omega) (by omega)).mono ?_)
  rintro e w2 ⟨r11, rfl, hrw, hb⟩
  rw [hsort] at hrw ⊢
  have h11 := hrw.1
  refine ⟨_, _, rfl, hw1.row hb hrw, ?_⟩
  clear hrw hb hw1
  refine xo_mv rfl rfl rfl ?_
  refine xo_call (fs := []) (cs := []) rfl rfl rfl fewest_enters rfl (fun w1 hw1 => (fewestR hw1 (hw1.rowAt h11 (fun p hp => by subst hp; exact (by repeat (first | exact List.Mem.head _ | exact List.mem_append_left _ (List.Mem.head _) | apply List.mem_append_right | apply List.Mem.tail)))) (causeP r (goneF r l day) id) 62 [.pointer (some ⟨b10, 0, none⟩), .pointer (some ⟨b7, 0, none⟩)] causes1_enters (fun S M2 W hW hM2 hI hS => causes1_calls A c r (goneF r l day) id M b10 b7 M2 S W (Kd.C_below hr (hw1.below hW).kx.below) (by omega) ((hw1.below hW).cell (by repeat (first | exact List.Mem.head _ | exact List.mem_append_left _ (List.Mem.head _) | apply List.mem_append_right | apply List.Mem.tail)) 0 rfl) ((hw1.below hW).obj (by repeat (first | exact List.Mem.head _ | exact List.mem_append_left _ (List.Mem.head _) | apply List.mem_append_right | apply List.Mem.tail))) ((hw1.below hW).imap (by repeat (first | exact List.Mem.head _ | exact List.mem_append_left _ (List.Mem.head _) | apply List.mem_append_right | apply List.Mem.tail))) hgn hI hS) hgn (sub_le hsrt hgsub) (by omega)).mono ?_)
  rintro e w2 ⟨r8, rfl, hrow, hb⟩
  have h08 := hrow.1
  refine ⟨_, _, rfl, hw1.row hb hrow, ?_⟩
  clear hrow hb hw1
  refine xo_asg rfl rfl rfl ?_
  refine xo_asg rfl rfl rfl ?_
  with_reducible refine xo_nil ?_
  with_reducible repeat (first | refine xq_then ?_ | refine xq_blockN ?_ | refine xq_scopeN ?_)
  with_reducible repeat refine xc_seq ?_
  with_reducible refine xc_ret ?_
  with_reducible repeat (first | refine xq_thenR ?_ | refine xq_blockR ?_ | refine xq_scopeR ?_)
  refine xq_ret2 rfl rfl rfl fun w' hw => ⟨r8, by rw [e1, e2], ?_, hw.kx.below⟩
  rw [e1]
  exact RowAt.of hw h08
theorem trustCauses_enters : ∀ args w, (callFunc 31 args).run Tryd.prog w = .ok (.enter 31 args) w := enters_of Tryd.func31 (by kernel_rfl) rfl
end Go.Proofs.YtcmepdamemnbkaaDoor
namespace Go.Proofs.YtcmepdamemnbkaaDoor
open Go.RowKit Go.Proofs.YtcmepdamemnbkaaDoorW.PrintWords
set_option linter.unusedVariables false
set_option linter.unusedSimpArgs false
end Go.Proofs.YtcmepdamemnbkaaDoor
namespace Go.Proofs.YtcmepdamemnbkaaDoor
open Go.RowKit Go.Proofs.YtcmepdamemnbkaaDoorW.PrintWords
set_option linter.unusedVariables false
set_option linter.unusedSimpArgs false
theorem trustTakes_enters : ∀ args w, (callFunc 29 args).run Tryd.prog w = .ok (.enter 29 args) w := enters_of Tryd.func29 (by kernel_rfl) rfl
theorem trustHolds_enters : ∀ args w, (callFunc 28 args).run Tryd.prog w = .ok (.enter 28 args) w := enters_of Tryd.func28 (by kernel_rfl) rfl
end Go.Proofs.YtcmepdamemnbkaaDoor
namespace Go.Proofs.YtcmepdamemnbkaaDoor
open Go.RowKit Go.Proofs.YtcmepdamemnbkaaDoorW.PrintWords
set_option linter.unusedVariables false
set_option linter.unusedSimpArgs false
theorem is_calls (A : Option Addr) (c : Nat) (xs : List Int) (B : Option Addr) (c2 : Nat) (w : World) (h1 : Kd.C (Kd.int .i64) w A xs.length xs) (h2 : Kd.C (Kd.int .i64) w B xs.length xs) :
    Calls Tryd.prog 27 #[.slice A xs.length c, .int .i64 0, .slice B xs.length c2] w fun e w' => e = .returned (.bool true) ∧ Below w.heap.size w w' := by
  have h0 : decide ((0 : Int) = 0) = true := rfl
  refine x_calls (X := XNone) Tryd.func27 rfl rfl rfl ?_
  with_reducible repeat refine xc_seq ?_
  with_reducible refine xc_region ?_
  refine xo_asg rfl rfl rfl ?_
  with_reducible refine xo_nil ?_
  with_reducible repeat (first | refine xq_then ?_ | refine xq_blockN ?_ | refine xq_scopeN ?_)
  with_reducible repeat refine xc_seq ?_
  with_reducible refine xc_region ?_
  refine xo_mv rfl rfl rfl ?_
  refine xo_eql rfl rfl rfl rfl ?_
  refine xo_mv rfl rfl rfl ?_
  refine xo_as (i := 9) rfl (congrArg Value.bool h0) ?_
  first
    | refine xo_not rfl rfl ?_
    | (refine xo_mv rfl rfl rfl ?_)
  first
    | refine xo_not rfl rfl ?_
    | (refine xo_mv rfl rfl rfl ?_)
  first
    | refine xo_not rfl rfl ?_
    | (refine xo_callB (fs := []) (cs := []) rfl rfl rfl sameInts_enters rfl (fun w1 hw1 => sameInts_calls A B c c2 xs w1 (Kd.C_below h1 hw1.kx.below) (Kd.C_below h2 hw1.kx.below)) ?_)
  first | refine xo_pickT rfl rfl rfl rfl ?_ | refine xo_pickF rfl rfl rfl rfl ?_
  refine xo_asg rfl rfl rfl ?_
  with_reducible refine xo_nil ?_
  with_reducible repeat (first | refine xq_then ?_ | refine xq_blockN ?_ | refine xq_scopeN ?_)
  with_reducible repeat refine xc_seq ?_
  with_reducible refine xc_ret ?_
  with_reducible repeat (first | refine xq_thenR ?_ | refine xq_blockR ?_ | refine xq_scopeR ?_)
  exact xq_ret1 rfl rfl fun w' hw => ⟨rfl, hw.kx.below⟩
theorem is_enters : ∀ args w, (callFunc 27 args).run Tryd.prog w = .ok (.enter 27 args) w := enters_of Tryd.func27 (by kernel_rfl) rfl
theorem isR_calls {w0 w : World} {X : Nat → Prop} {η : Hp} (hw : WOK w0 X η w) {rr : RowR} {xs : List Int} (hl : xs.length ≤ 1000000) (h1 : RowAt 3 0 w rr xs) (B : Option Addr) (c2 : Nat) (h2 : Kd.C (Kd.int .i64) w B xs.length xs) :
    Calls Tryd.prog 27 ([] ++ [valR rr xs.length, .int .i64 0, .slice B xs.length c2] ++ []).toArray w fun e w' => e = .returned (.bool true) ∧ Below w.heap.size w w' := by
  obtain ⟨A, c, e1, _, hA⟩ := h1.C (by omega)
  rw [e1]
  exact is_calls A c xs B c2 w hA h2
theorem byE : Bytes recsE := by unfold Bytes recsE; decide
theorem byLE : BytesL letsE := by unfold BytesL letsE; decide
theorem byME : BytesM movsE := by unfold BytesM movsE; decide
theorem onE_calls (day : Int) (want : List Int) (B : Option Addr) (c2 : Nat) (w : World) (hB : Kd.C (Kd.int .i64) w B want.length want) (hl : want.length ≤ 100) (h1 : openF recsE letsE day [] = 0) (h2 : holdsR recsE letsE day = want) :
    Calls Tryd.prog 20 #[.int .i64 day, .slice B want.length c2] w fun e w' => e = .returned (.bool true) ∧ Below w.heap.size w w' := by
  refine x_calls (X := XNone) Tryd.func20 rfl rfl rfl ?_
  with_reducible repeat refine xc_seq ?_
  with_reducible refine xc_region ?_
  refine xo_asg rfl rfl rfl ?_
  with_reducible refine xo_nil ?_
  with_reducible repeat (first | refine xq_then ?_ | refine xq_blockN ?_ | refine xq_scopeN ?_)
  with_reducible repeat refine xc_seq ?_
  with_reducible refine xc_region ?_
  refine xo_call (fs := []) (cs := []) rfl rfl rfl recordsE_enters rfl (fun w1 hw1 => (recordsE_calls w1).mono ?_)
  rintro e w2 ⟨ζr, br, rfl, hz, hR⟩
  refine ⟨_, _, rfl, hw1.join hz hR.1, ?_⟩
  clear hz hw1
  refine xo_call (fs := []) (cs := []) rfl rfl rfl letters_enters rfl (fun w1 hw1 => (letters_calls w1).mono ?_)
  rintro e w2 ⟨ζl, bl, rfl, hz, hL⟩
  refine ⟨_, _, rfl, hw1.join hz hL.1, ?_⟩
  clear hz hw1
  refine xo_mv rfl rfl rfl ?_
  refine xo_call (fs := []) (cs := []) rfl rfl rfl trustHolds_enters rfl (fun w1 hw1 => (trustHolds_calls (some ⟨br, 0, none⟩) (some ⟨bl, 0, none⟩) 7 3 recsE letsE day w1 (hR.2 _ _ _ _ hw1 (fun e he => by repeat (first | exact he | exact List.mem_append_left _ he | apply List.mem_append_right | apply List.Mem.tail))) (hL.2 _ _ _ _ hw1 (fun e he => by repeat (first | exact he | exact List.mem_append_left _ he | apply List.mem_append_right | apply List.Mem.tail))) byE byLE).mono ?_)
  rw [h1, h2]
  rintro e w2 ⟨rr, rfl, hrow, hb⟩
  have hrr := hrow.1
  refine ⟨_, _, rfl, hw1.row hb hrow, ?_⟩
  clear hrow hb hw1
  refine xo_mv rfl rfl rfl ?_
  refine xo_ext rfl rfl rfl rfl ?_
  refine xo_ext rfl rfl rfl rfl ?_
  refine xo_asg rfl rfl rfl ?_
  refine xo_asg rfl rfl rfl ?_
  with_reducible refine xo_nil ?_
  with_reducible repeat (first | refine xq_then ?_ | refine xq_blockN ?_ | refine xq_scopeN ?_)
  with_reducible repeat refine xc_seq ?_
  with_reducible refine xc_region ?_
  refine xo_mv rfl rfl rfl ?_
  refine xo_mv rfl rfl rfl ?_
  refine xo_mv rfl rfl rfl ?_
  refine xo_callB (fs := []) (cs := []) rfl rfl rfl is_enters rfl (fun w1 hw1 => isR_calls hw1 (by omega) (hw1.rowAt hrr (fun p hp => by subst hp; exact (by repeat (first | exact List.Mem.head _ | exact List.mem_append_left _ (List.Mem.head _) | apply List.mem_append_right | apply List.Mem.tail)))) B c2 (Kd.C_below hB hw1.kx.below)) ?_
  refine xo_asg rfl rfl rfl ?_
  with_reducible refine xo_nil ?_
  with_reducible repeat (first | refine xq_then ?_ | refine xq_blockN ?_ | refine xq_scopeN ?_)
  with_reducible repeat refine xc_seq ?_
  with_reducible refine xc_ret ?_
  with_reducible repeat (first | refine xq_thenR ?_ | refine xq_blockR ?_ | refine xq_scopeR ?_)
  exact xq_ret1 rfl rfl fun w' hw => ⟨rfl, hw.kx.below⟩
theorem onE_enters : ∀ args w, (callFunc 20 args).run Tryd.prog w = .ok (.enter 20 args) w := enters_of Tryd.func20 (by kernel_rfl) rfl
theorem takesE_calls (day id : Int) (want : List Int) (B : Option Addr) (c2 : Nat) (w : World) (hB : Kd.C (Kd.int .i64) w B want.length want) (hl : want.length ≤ 100) (h1 : openF recsE letsE day [id] = 0) (h2 : takesR recsE letsE day id = want) :
    Calls Tryd.prog 21 #[.int .i64 day, .int .i64 id, .slice B want.length c2] w fun e w' => e = .returned (.bool true) ∧ Below w.heap.size w w' := by
  refine x_calls (X := XNone) Tryd.func21 rfl rfl rfl ?_
  with_reducible repeat refine xc_seq ?_
  with_reducible refine xc_region ?_
  refine xo_asg rfl rfl rfl ?_
  with_reducible refine xo_nil ?_
  with_reducible repeat (first | refine xq_then ?_ | refine xq_blockN ?_ | refine xq_scopeN ?_)
  with_reducible repeat refine xc_seq ?_
  with_reducible refine xc_region ?_
  refine xo_call (fs := []) (cs := []) rfl rfl rfl recordsE_enters rfl (fun w1 hw1 => (recordsE_calls w1).mono ?_)
  rintro e w2 ⟨ζr, br, rfl, hz, hR⟩
  refine ⟨_, _, rfl, hw1.join hz hR.1, ?_⟩
  clear hz hw1
  refine xo_call (fs := []) (cs := []) rfl rfl rfl letters_enters rfl (fun w1 hw1 => (letters_calls w1).mono ?_)
  rintro e w2 ⟨ζl, bl, rfl, hz, hL⟩
  refine ⟨_, _, rfl, hw1.join hz hL.1, ?_⟩
  clear hz hw1
  refine xo_mv rfl rfl rfl ?_
  refine xo_mv rfl rfl rfl ?_
  refine xo_call (fs := []) (cs := []) rfl rfl rfl trustTakes_enters rfl (fun w1 hw1 => (trustTakes_calls (some ⟨br, 0, none⟩) (some ⟨bl, 0, none⟩) 7 3 recsE letsE day id w1 (hR.2 _ _ _ _ hw1 (fun e he => by repeat (first | exact he | exact List.mem_append_left _ he | apply List.mem_append_right | apply List.Mem.tail))) (hL.2 _ _ _ _ hw1 (fun e he => by repeat (first | exact he | exact List.mem_append_left _ he | apply List.mem_append_right | apply List.Mem.tail))) byE byLE).mono ?_)
  rw [h1, h2]
  rintro e w2 ⟨rr, rfl, hrow, hb⟩
  have hrr := hrow.1
  refine ⟨_, _, rfl, hw1.row hb hrow, ?_⟩
  clear hrow hb hw1
  refine xo_mv rfl rfl rfl ?_
  refine xo_ext rfl rfl rfl rfl ?_
  refine xo_ext rfl rfl rfl rfl ?_
  refine xo_asg rfl rfl rfl ?_
  refine xo_asg rfl rfl rfl ?_
  with_reducible refine xo_nil ?_
  with_reducible repeat (first | refine xq_then ?_ | refine xq_blockN ?_ | refine xq_scopeN ?_)
  with_reducible repeat refine xc_seq ?_
  with_reducible refine xc_region ?_
  refine xo_mv rfl rfl rfl ?_
  refine xo_mv rfl rfl rfl ?_
  refine xo_mv rfl rfl rfl ?_
  refine xo_callB (fs := []) (cs := []) rfl rfl rfl is_enters rfl (fun w1 hw1 => isR_calls hw1 (by omega) (hw1.rowAt hrr (fun p hp => by subst hp; exact (by repeat (first | exact List.Mem.head _ | exact List.mem_append_left _ (List.Mem.head _) | apply List.mem_append_right | apply List.Mem.tail)))) B c2 (Kd.C_below hB hw1.kx.below)) ?_
  refine xo_asg rfl rfl rfl ?_
  with_reducible refine xo_nil ?_
  with_reducible repeat (first | refine xq_then ?_ | refine xq_blockN ?_ | refine xq_scopeN ?_)
  with_reducible repeat refine xc_seq ?_
  with_reducible refine xc_ret ?_
  with_reducible repeat (first | refine xq_thenR ?_ | refine xq_blockR ?_ | refine xq_scopeR ?_)
  exact xq_ret1 rfl rfl fun w' hw => ⟨rfl, hw.kx.below⟩
theorem takesE_enters : ∀ args w, (callFunc 21 args).run Tryd.prog w = .ok (.enter 21 args) w := enters_of Tryd.func21 (by kernel_rfl) rfl
theorem restsE_calls (day id : Int) (want : List Int) (B : Option Addr) (c2 : Nat) (w : World) (hB : Kd.C (Kd.int .i64) w B want.length want) (hl : want.length ≤ 100) (h1 : refRestsC recsE letsE day id = 0) (h2 : refRestsR recsE letsE day id = want) :
    Calls Tryd.prog 22 #[.int .i64 day, .int .i64 id, .slice B want.length c2] w fun e w' => e = .returned (.bool true) ∧ Below w.heap.size w w' := by
  refine x_calls (X := XNone) Tryd.func22 rfl rfl rfl ?_
  with_reducible repeat refine xc_seq ?_
  with_reducible refine xc_region ?_
  refine xo_asg rfl rfl rfl ?_
  with_reducible refine xo_nil ?_
  with_reducible repeat (first | refine xq_then ?_ | refine xq_blockN ?_ | refine xq_scopeN ?_)
  with_reducible repeat refine xc_seq ?_
  with_reducible refine xc_region ?_
  refine xo_call (fs := []) (cs := []) rfl rfl rfl recordsE_enters rfl (fun w1 hw1 => (recordsE_calls w1).mono ?_)
  rintro e w2 ⟨ζr, br, rfl, hz, hR⟩
  refine ⟨_, _, rfl, hw1.join hz hR.1, ?_⟩
  clear hz hw1
  refine xo_call (fs := []) (cs := []) rfl rfl rfl letters_enters rfl (fun w1 hw1 => (letters_calls w1).mono ?_)
  rintro e w2 ⟨ζl, bl, rfl, hz, hL⟩
  refine ⟨_, _, rfl, hw1.join hz hL.1, ?_⟩
  clear hz hw1
  refine xo_mv rfl rfl rfl ?_
  refine xo_mv rfl rfl rfl ?_
  refine xo_call (fs := []) (cs := []) rfl rfl rfl trustRests_enters rfl (fun w1 hw1 => (trustRests_calls (some ⟨br, 0, none⟩) (some ⟨bl, 0, none⟩) 7 3 recsE letsE day id w1 (hR.2 _ _ _ _ hw1 (fun e he => by repeat (first | exact he | exact List.mem_append_left _ he | apply List.mem_append_right | apply List.Mem.tail))) (hL.2 _ _ _ _ hw1 (fun e he => by repeat (first | exact he | exact List.mem_append_left _ he | apply List.mem_append_right | apply List.Mem.tail))) byE byLE).mono ?_)
  rw [h1, h2]
  rintro e w2 ⟨rr, rfl, hrow, hb⟩
  have hrr := hrow.1
  refine ⟨_, _, rfl, hw1.row hb hrow, ?_⟩
  clear hrow hb hw1
  refine xo_mv rfl rfl rfl ?_
  refine xo_ext rfl rfl rfl rfl ?_
  refine xo_ext rfl rfl rfl rfl ?_
  refine xo_asg rfl rfl rfl ?_
  refine xo_asg rfl rfl rfl ?_
  with_reducible refine xo_nil ?_
  with_reducible repeat (first | refine xq_then ?_ | refine xq_blockN ?_ | refine xq_scopeN ?_)
  with_reducible repeat refine xc_seq ?_
  with_reducible refine xc_region ?_
  refine xo_mv rfl rfl rfl ?_
  refine xo_mv rfl rfl rfl ?_
  refine xo_mv rfl rfl rfl ?_
  refine xo_callB (fs := []) (cs := []) rfl rfl rfl is_enters rfl (fun w1 hw1 => isR_calls hw1 (by omega) (hw1.rowAt hrr (fun p hp => by subst hp; exact (by repeat (first | exact List.Mem.head _ | exact List.mem_append_left _ (List.Mem.head _) | apply List.mem_append_right | apply List.Mem.tail)))) B c2 (Kd.C_below hB hw1.kx.below)) ?_
  refine xo_asg rfl rfl rfl ?_
  with_reducible refine xo_nil ?_
  with_reducible repeat (first | refine xq_then ?_ | refine xq_blockN ?_ | refine xq_scopeN ?_)
  with_reducible repeat refine xc_seq ?_
  with_reducible refine xc_ret ?_
  with_reducible repeat (first | refine xq_thenR ?_ | refine xq_blockR ?_ | refine xq_scopeR ?_)
  exact xq_ret1 rfl rfl fun w' hw => ⟨rfl, hw.kx.below⟩
theorem restsE_enters : ∀ args w, (callFunc 22 args).run Tryd.prog w = .ok (.enter 22 args) w := enters_of Tryd.func22 (by kernel_rfl) rfl
theorem causesE_calls (day id : Int) (want : List Int) (B : Option Addr) (c2 : Nat) (w : World) (hB : Kd.C (Kd.int .i64) w B want.length want) (hl : want.length ≤ 100) (h1 : refCausesC recsE letsE day id = 0) (h2 : refCausesR recsE letsE day id = want) :
    Calls Tryd.prog 23 #[.int .i64 day, .int .i64 id, .slice B want.length c2] w fun e w' => e = .returned (.bool true) ∧ Below w.heap.size w w' := by
  refine x_calls (X := XNone) Tryd.func23 rfl rfl rfl ?_
  with_reducible repeat refine xc_seq ?_
  with_reducible refine xc_region ?_
  refine xo_asg rfl rfl rfl ?_
  with_reducible refine xo_nil ?_
  with_reducible repeat (first | refine xq_then ?_ | refine xq_blockN ?_ | refine xq_scopeN ?_)
  with_reducible repeat refine xc_seq ?_
  with_reducible refine xc_region ?_
  refine xo_call (fs := []) (cs := []) rfl rfl rfl recordsE_enters rfl (fun w1 hw1 => (recordsE_calls w1).mono ?_)
  rintro e w2 ⟨ζr, br, rfl, hz, hR⟩
  refine ⟨_, _, rfl, hw1.join hz hR.1, ?_⟩
  clear hz hw1
  refine xo_call (fs := []) (cs := []) rfl rfl rfl letters_enters rfl (fun w1 hw1 => (letters_calls w1).mono ?_)
  rintro e w2 ⟨ζl, bl, rfl, hz, hL⟩
  refine ⟨_, _, rfl, hw1.join hz hL.1, ?_⟩
  clear hz hw1
  refine xo_mv rfl rfl rfl ?_
  refine xo_mv rfl rfl rfl ?_
  refine xo_call (fs := []) (cs := []) rfl rfl rfl trustCauses_enters rfl (fun w1 hw1 => (trustCauses_calls (some ⟨br, 0, none⟩) (some ⟨bl, 0, none⟩) 7 3 recsE letsE day id w1 (hR.2 _ _ _ _ hw1 (fun e he => by repeat (first | exact he | exact List.mem_append_left _ he | apply List.mem_append_right | apply List.Mem.tail))) (hL.2 _ _ _ _ hw1 (fun e he => by repeat (first | exact he | exact List.mem_append_left _ he | apply List.mem_append_right | apply List.Mem.tail))) byE byLE).mono ?_)
  rw [h1, h2]
  rintro e w2 ⟨rr, rfl, hrow, hb⟩
  have hrr := hrow.1
  refine ⟨_, _, rfl, hw1.row hb hrow, ?_⟩
  clear hrow hb hw1
  refine xo_mv rfl rfl rfl ?_
  refine xo_ext rfl rfl rfl rfl ?_
  refine xo_ext rfl rfl rfl rfl ?_
  refine xo_asg rfl rfl rfl ?_
  refine xo_asg rfl rfl rfl ?_
  with_reducible refine xo_nil ?_
  with_reducible repeat (first | refine xq_then ?_ | refine xq_blockN ?_ | refine xq_scopeN ?_)
  with_reducible repeat refine xc_seq ?_
  with_reducible refine xc_region ?_
  refine xo_mv rfl rfl rfl ?_
  refine xo_mv rfl rfl rfl ?_
  refine xo_mv rfl rfl rfl ?_
  refine xo_callB (fs := []) (cs := []) rfl rfl rfl is_enters rfl (fun w1 hw1 => isR_calls hw1 (by omega) (hw1.rowAt hrr (fun p hp => by subst hp; exact (by repeat (first | exact List.Mem.head _ | exact List.mem_append_left _ (List.Mem.head _) | apply List.mem_append_right | apply List.Mem.tail)))) B c2 (Kd.C_below hB hw1.kx.below)) ?_
  refine xo_asg rfl rfl rfl ?_
  with_reducible refine xo_nil ?_
  with_reducible repeat (first | refine xq_then ?_ | refine xq_blockN ?_ | refine xq_scopeN ?_)
  with_reducible repeat refine xc_seq ?_
  with_reducible refine xc_ret ?_
  with_reducible repeat (first | refine xq_thenR ?_ | refine xq_blockR ?_ | refine xq_scopeR ?_)
  exact xq_ret1 rfl rfl fun w' hw => ⟨rfl, hw.kx.below⟩
theorem causesE_enters : ∀ args w, (callFunc 23 args).run Tryd.prog w = .ok (.enter 23 args) w := enters_of Tryd.func23 (by kernel_rfl) rfl
/-! ### what the examples answer -/
theorem e_o10 : openF recsE letsE 10 [] = 0 := by decide
theorem e_h10 : holdsR recsE letsE 10 = [2, 4, 5, 6, 7] := by decide
theorem e_o20 : openF recsE letsE 20 [] = 0 := by decide
theorem e_h20 : holdsR recsE letsE 20 = [1, 2, 3, 6] := by decide
theorem e_o104 : openF recsE letsE 10 [4] = 0 := by decide
theorem e_t104 : takesR recsE letsE 10 4 = [4, 5, 6, 7] := by decide
theorem e_rc56 : refRestsC recsE letsE 5 6 = 0 := by decide
theorem e_cc103 : refCausesC recsE letsE 10 3 = 0 := by decide
theorem e_p2 : piecesR recsE movsE 2 = ⟨80, 5, 3, 50, 0, 32⟩ := by rw [← stEq_iff]; decide
theorem e_pc2 : piecesC recsE movsE 2 = 0 := by decide
theorem e_rec10 : recallR recsE letsE movsE 10 = [3] := by decide
theorem e_recn10 : recallN recsE letsE movsE 10 = 15 := by decide
theorem e_recc10 : recallC recsE letsE movsE 10 = 0 := by decide
end Go.Proofs.YtcmepdamemnbkaaDoor
namespace Go.Proofs.YtcmepdamemnbkaaDoor
open Go.RowKit Go.Proofs.YtcmepdamemnbkaaDoorW.PrintWords
set_option linter.unusedVariables false
set_option linter.unusedSimpArgs false
set_option maxRecDepth 100000 in
theorem e_r56 : refRestsR recsE letsE 5 6 = [1, 2, 3, 6] := by decide +kernel
set_option maxRecDepth 100000 in
theorem e_c103 : refCausesR recsE letsE 10 3 = [1] := by decide +kernel
theorem ints_cel {w0 : World} {X : Nat → Prop} {η : Hp} {w : World} (hw : WOK w0 X η w) (b : Nat) (xs : List Int) {vs : List Value} (hm : (b, true, cel vs 3) ∈ η) (hv : vs = xs.map (.int .i64)) (hl : xs.length ≤ 100) : Kd.C (Kd.int .i64) w (some ⟨b, 0, none⟩) xs.length xs := by
  subst hv
  exact C_cel hw hm (by omega)
set_option maxHeartbeats 16000000 in
theorem alive_calls (w : World) (hglob : GlobOK w) : Calls Tryd.prog 19 #[] w fun e w' => e = .returned (.bool true) ∧ Below w.heap.size w w' := by
  have h10 : decide ((0 : Int) = 0) = true := rfl
  have hst : stEq ⟨80, 5, 3, 50, 0, 32⟩ ⟨80, 5, 3, 50, 0, 32⟩ = true := stEq_iff.2 rfl
  refine x_calls (X := XNone) Tryd.func19 rfl rfl rfl ?_
  with_reducible repeat refine xc_seq ?_
  with_reducible refine xc_region ?_
  refine xo_asg rfl rfl rfl ?_
  with_reducible refine xo_nil ?_
  with_reducible repeat (first | refine xq_then ?_ | refine xq_blockN ?_ | refine xq_scopeN ?_)
  with_reducible repeat refine xc_seq ?_
  with_reducible refine xc_region ?_
  refine xo_call (fs := []) (cs := []) rfl rfl rfl recordsE_enters rfl (fun w1 hw1 => (recordsE_calls w1).mono ?_)
  rintro e w2 ⟨ζr, br, rfl, hz, hR⟩
  refine ⟨_, _, rfl, hw1.join hz hR.1, ?_⟩
  clear hz hw1
  refine xo_call (fs := []) (cs := []) rfl rfl rfl movesE_enters rfl (fun w1 hw1 => (movesE_calls w1).mono ?_)
  rintro e w2 ⟨ζm, bm, rfl, hz, hM⟩
  refine ⟨_, _, rfl, hw1.join hz hM.1, ?_⟩
  clear hz hw1
  refine xo_callB (v := .tuple #[.agg (stV ⟨80, 5, 3, 50, 0, 32⟩).toArray, .int .i64 0]) (fs := []) (cs := []) rfl rfl rfl pieces_enters rfl (fun w1 hw1 => by rw [← e_p2, ← e_pc2]; exact pieces_calls (some ⟨br, 0, none⟩) (some ⟨bm, 0, none⟩) 7 6 recsE movsE 2 w1 (hR.2 _ _ _ _ hw1 (fun e he => by repeat (first | exact he | exact List.mem_append_left _ he | apply List.mem_append_right | apply List.Mem.tail))) (hM.2 _ _ _ _ hw1 (fun e he => by repeat (first | exact he | exact List.mem_append_left _ he | apply List.mem_append_right | apply List.Mem.tail))) byE byME (hglob.below hw1.kx.below)) ?_
  refine xo_mv rfl rfl rfl ?_
  refine xo_ext rfl rfl rfl rfl ?_
  refine xo_ext rfl rfl rfl rfl ?_
  refine xo_alloc T_ rfl rfl rfl rfl (fun b1 => ?_)
  refine xo_store T_ rfl rfl rfl rfl (by repeat (first | exact List.Mem.head _ | apply List.Mem.tail | apply List.mem_append_right)) rfl rfl rfl rfl (by repeat (first | exact Upd.head | apply Upd.tail | apply Upd.app)) rfl ?_
  refine xo_asg rfl rfl rfl ?_
  with_reducible refine xo_nil ?_
  with_reducible repeat (first | refine xq_then ?_ | refine xq_blockN ?_ | refine xq_scopeN ?_)
  with_reducible repeat refine xc_seq ?_
  with_reducible refine xc_region ?_
  refine xo_call (fs := []) (cs := []) rfl rfl rfl recordsE_enters rfl (fun w1 hw1 => (recordsE_calls w1).mono ?_)
  rintro e w2 ⟨ζr2, br2, rfl, hz, hR2⟩
  refine ⟨_, _, rfl, hw1.join hz hR2.1, ?_⟩
  clear hz hw1
  refine xo_call (fs := []) (cs := []) rfl rfl rfl letters_enters rfl (fun w1 hw1 => (letters_calls w1).mono ?_)
  rintro e w2 ⟨ζl, bl, rfl, hz, hL⟩
  refine ⟨_, _, rfl, hw1.join hz hL.1, ?_⟩
  clear hz hw1
  refine xo_call (fs := []) (cs := []) rfl rfl rfl movesE_enters rfl (fun w1 hw1 => (movesE_calls w1).mono ?_)
  rintro e w2 ⟨ζm2, bm2, rfl, hz, hM2⟩
  refine ⟨_, _, rfl, hw1.join hz hM2.1, ?_⟩
  clear hz hw1
  refine xo_call (fs := []) (cs := []) rfl rfl rfl recall_enters rfl (fun w1 hw1 => (recall_calls (some ⟨br2, 0, none⟩) (some ⟨bl, 0, none⟩) (some ⟨bm2, 0, none⟩) 7 3 6 recsE letsE movsE 10 w1 (hR2.2 _ _ _ _ hw1 (fun e he => by repeat (first | exact he | exact List.mem_append_left _ he | apply List.mem_append_right | apply List.Mem.tail))) (hL.2 _ _ _ _ hw1 (fun e he => by repeat (first | exact he | exact List.mem_append_left _ he | apply List.mem_append_right | apply List.Mem.tail))) (hM2.2 _ _ _ _ hw1 (fun e he => by repeat (first | exact he | exact List.mem_append_left _ he | apply List.mem_append_right | apply List.Mem.tail))) byE byLE byME (hglob.below hw1.kx.below)).mono ?_)
  rw [e_rec10, e_recn10, e_recc10]
  rintro e w2 ⟨rr, rfl, hrow, hb⟩
  have hrr := hrow.1
  refine ⟨_, _, rfl, hw1.row hb hrow, ?_⟩
  clear hrow hb hw1
  refine xo_mv rfl rfl rfl ?_
  refine xo_ext rfl rfl rfl rfl ?_
  refine xo_ext rfl rfl rfl rfl ?_
  refine xo_ext rfl rfl rfl rfl ?_
  refine xo_asg rfl rfl rfl ?_
  refine xo_asg rfl rfl rfl ?_
  refine xo_asg rfl rfl rfl ?_
  with_reducible refine xo_nil ?_
  with_reducible repeat (first | refine xq_then ?_ | refine xq_blockN ?_ | refine xq_scopeN ?_)
  with_reducible repeat refine xc_seq ?_
  with_reducible refine xc_region ?_
  refine xo_bsG T_ 1 rfl rfl rfl rfl rfl rfl rfl rfl rfl rfl (fun b20 => ?_)
  refine xo_callB (fs := []) (cs := []) rfl rfl rfl onE_enters rfl (fun w1 hw1 => onE_calls 10 [2, 4, 5, 6, 7] (some ⟨b20, 0, none⟩) 5 w1 (ints_cel hw1 b20 [2, 4, 5, 6, 7] (by repeat (first | exact List.Mem.head _ | apply List.Mem.tail | apply List.mem_append_right)) rfl (by decide)) (by decide) e_o10 e_h10) ?_
  refine xo_mv rfl rfl rfl ?_
  first
    | refine xo_not rfl rfl ?_
    | (refine xo_bsG T_ 1 rfl rfl rfl rfl rfl rfl rfl rfl rfl rfl (fun b23 => ?_))
  first
    | refine xo_not rfl rfl ?_
    | (refine xo_callB (fs := []) (cs := []) rfl rfl rfl onE_enters rfl (fun w1 hw1 => onE_calls 20 [1, 2, 3, 6] (some ⟨b23, 0, none⟩) 4 w1 (ints_cel hw1 b23 [1, 2, 3, 6] (by repeat (first | exact List.Mem.head _ | apply List.Mem.tail | apply List.mem_append_right)) rfl (by decide)) (by decide) e_o20 e_h20) ?_)
  first | refine xo_pickT rfl rfl rfl rfl ?_ | refine xo_pickF rfl rfl rfl rfl ?_
  refine xo_mv rfl rfl rfl ?_
  first
    | refine xo_not rfl rfl ?_
    | (refine xo_bsG T_ 1 rfl rfl rfl rfl rfl rfl rfl rfl rfl rfl (fun b27 => ?_))
  first
    | refine xo_not rfl rfl ?_
    | (refine xo_callB (fs := []) (cs := []) rfl rfl rfl takesE_enters rfl (fun w1 hw1 => takesE_calls 10 4 [4, 5, 6, 7] (some ⟨b27, 0, none⟩) 4 w1 (ints_cel hw1 b27 [4, 5, 6, 7] (by repeat (first | exact List.Mem.head _ | apply List.Mem.tail | apply List.mem_append_right)) rfl (by decide)) (by decide) e_o104 e_t104) ?_)
  first | refine xo_pickT rfl rfl rfl rfl ?_ | refine xo_pickF rfl rfl rfl rfl ?_
  refine xo_mv rfl rfl rfl ?_
  first
    | refine xo_not rfl rfl ?_
    | (refine xo_bsG T_ 1 rfl rfl rfl rfl rfl rfl rfl rfl rfl rfl (fun b31 => ?_))
  first
    | refine xo_not rfl rfl ?_
    | (refine xo_callB (fs := []) (cs := []) rfl rfl rfl restsE_enters rfl (fun w1 hw1 => restsE_calls 5 6 [1, 2, 3, 6] (some ⟨b31, 0, none⟩) 4 w1 (ints_cel hw1 b31 [1, 2, 3, 6] (by repeat (first | exact List.Mem.head _ | apply List.Mem.tail | apply List.mem_append_right)) rfl (by decide)) (by decide) e_rc56 e_r56) ?_)
  first | refine xo_pickT rfl rfl rfl rfl ?_ | refine xo_pickF rfl rfl rfl rfl ?_
  refine xo_mv rfl rfl rfl ?_
  first
    | refine xo_not rfl rfl ?_
    | (refine xo_bs1 T_ rfl rfl rfl rfl rfl rfl rfl rfl (fun b35 => ?_))
  first
    | refine xo_not rfl rfl ?_
    | (refine xo_callB (fs := []) (cs := []) rfl rfl rfl causesE_enters rfl (fun w1 hw1 => causesE_calls 10 3 [1] (some ⟨b35, 0, none⟩) 1 w1 (ints_cel hw1 b35 [1] (by repeat (first | exact List.Mem.head _ | apply List.Mem.tail | apply List.mem_append_right)) rfl (by decide)) (by decide) e_cc103 e_c103) ?_)
  first | refine xo_pickT rfl rfl rfl rfl ?_ | refine xo_pickF rfl rfl rfl rfl ?_
  refine xo_mv rfl rfl rfl ?_
  first
    | refine xo_not rfl rfl ?_
    | (refine xo_mv rfl rfl rfl ?_)
  first
    | refine xo_not rfl rfl ?_
    | (refine xo_eql rfl rfl rfl rfl ?_)
  refine xo_as (i := 40) rfl (congrArg Value.bool h10) ?_
  first | refine xo_pickT rfl rfl rfl rfl ?_ | refine xo_pickF rfl rfl rfl rfl ?_
  refine xo_mv rfl rfl rfl ?_
  first
    | refine xo_not rfl rfl ?_
    | (refine xo_loadN T_ rfl rfl rfl (by repeat (first | exact List.Mem.head _ | exact List.mem_append_left _ (List.Mem.head _) | apply List.mem_append_right | apply List.Mem.tail)) rfl rfl ?_)
  first
    | refine xo_not rfl rfl ?_
    | (refine xo_build TB_ rfl rfl rfl rfl rfl ?_)
  first
    | refine xo_not rfl rfl ?_
    | (refine xo_eqlSt (a := ⟨80, 5, 3, 50, 0, 32⟩) (b := ⟨80, 5, 3, 50, 0, 32⟩) rfl rfl rfl rfl ?_)
  refine xo_as (i := 45) rfl (congrArg Value.bool hst) ?_
  first | refine xo_pickT rfl rfl rfl rfl ?_ | refine xo_pickF rfl rfl rfl rfl ?_
  refine xo_mv rfl rfl rfl ?_
  first
    | refine xo_not rfl rfl ?_
    | (refine xo_mv rfl rfl rfl ?_)
  first
    | refine xo_not rfl rfl ?_
    | (refine xo_mv rfl rfl rfl ?_)
  first
    | refine xo_not rfl rfl ?_
    | (refine xo_bs1 T_ rfl rfl rfl rfl rfl rfl rfl rfl (fun b50 => ?_))
  first
    | refine xo_not rfl rfl ?_
    | (refine xo_callB (fs := []) (cs := []) rfl rfl rfl is_enters rfl (fun w1 hw1 => isR_calls (xs := [3]) hw1 (by decide) (hw1.rowAt hrr (fun p hp => by subst hp; exact (by repeat (first | exact List.Mem.head _ | exact List.mem_append_left _ (List.Mem.head _) | apply List.mem_append_right | apply List.Mem.tail)))) (some ⟨b50, 0, none⟩) 1 (ints_cel hw1 b50 [3] (by repeat (first | exact List.Mem.head _ | apply List.Mem.tail | apply List.mem_append_right)) rfl (by decide))) ?_)
  first | refine xo_pickT rfl rfl rfl rfl ?_ | refine xo_pickF rfl rfl rfl rfl ?_
  refine xo_mv rfl rfl rfl ?_
  first
    | refine xo_not rfl rfl ?_
    | (refine xo_mv rfl rfl rfl ?_)
  first
    | refine xo_not rfl rfl ?_
    | (refine xo_eql rfl rfl rfl rfl ?_)
  first | refine xo_pickT rfl rfl rfl rfl ?_ | refine xo_pickF rfl rfl rfl rfl ?_
  refine xo_asg rfl rfl rfl ?_
  with_reducible refine xo_nil ?_
  with_reducible repeat (first | refine xq_then ?_ | refine xq_blockN ?_ | refine xq_scopeN ?_)
  with_reducible repeat refine xc_seq ?_
  with_reducible refine xc_ret ?_
  with_reducible repeat (first | refine xq_thenR ?_ | refine xq_blockR ?_ | refine xq_scopeR ?_)
  exact xq_ret1 rfl rfl fun w' hw => ⟨rfl, hw.kx.below⟩
theorem alive_enters : ∀ args w, (callFunc 19 args).run Tryd.prog w = .ok (.enter 19 args) w := enters_of Tryd.func19 (by kernel_rfl) rfl
end Go.Proofs.YtcmepdamemnbkaaDoor
namespace Go.Proofs.YtcmepdamemnbkaaDoor
open Go.RowKit
set_option linter.unusedVariables false
set_option linter.unusedSimpArgs false
/-- what the i-th may read of the old values: their writers wait for it -/
def volB (ops : List Oper) (i k : Nat) : Bool := ops.any fun o => (o.dst == some k) && (depOf o).contains i
def volS (ops : List Oper) (i : Nat) (ρ : Slots) : Slots := ρ.filter fun p => volB ops i p.1
section
variable {P : Program} {ro : Option Nat} {n N : Nat} {ds : List Deferred} {w0 : World} {X : Nat → Prop} {Q : Exit → Act → World → Prop} {σ : Slots} {η : Hp}
def DrawV (P : Program) (ro : Option Nat) (n N : Nat) (ds : List Deferred) (w0 : World) (X : Nat → Prop) (ops : List Oper) (vs : List Value) (ρ σ : Slots) (η : Hp) : Nat → List Oper → List Value → Prop
  | i, o :: r, v :: vr => (∀ τ, XO P ro n N ds w0 X (OnePost N ds w0 X η (putS o.dst v (flatS ops vs (depOf o) σ ++ (volS ops i ρ ++ τ)))) ops (flatS ops vs (depOf o) σ ++ (volS ops i ρ ++ τ)) η [o]) ∧ DrawV P ro n N ds w0 X ops vs ρ σ η (i + 1) r vr
  | _, _, _ => True
theorem DrawV.nil {ops : List Oper} {vs : List Value} {ρ : Slots} {i : Nat} : DrawV P ro n N ds w0 X ops vs ρ σ η i [] [] := trivial
theorem DrawV.cons {ops : List Oper} {vs : List Value} {ρ : Slots} {i : Nat} {o : Oper} {r : List Oper} {v : Value} {vr : List Value} (h : ∀ τ, XO P ro n N ds w0 X (OnePost N ds w0 X η (putS o.dst v (flatS ops vs (depOf o) σ ++ (volS ops i ρ ++ τ)))) ops (flatS ops vs (depOf o) σ ++ (volS ops i ρ ++ τ)) η [o])
    (t : DrawV P ro n N ds w0 X ops vs ρ σ η (i + 1) r vr) : DrawV P ro n N ds w0 X ops vs ρ σ η i (o :: r) (v :: vr) := ⟨h, t⟩
end
end Go.Proofs.YtcmepdamemnbkaaDoor
namespace Go.Proofs.YtcmepdamemnbkaaDoor
open Go.ChangeShapes Go.WideShapes Go.RowKit
set_option linter.unusedVariables false
set_option linter.unusedSimpArgs false
def laidL : List (String × DataW Unit) := [("cottonpad/trust.adds", Rows.laid_cottonpad_trust_adds)]
theorem gAdds : Tryd.prog.globalNamed "cottonpad/trust.adds" = some 0 := by kernel_rfl
theorem tAdds : (Tryd.prog.globals[0]?).map (·.type) = some 107 := by kernel_rfl
theorem door_met (os : Os) (args : Array Value) : laidMetH Tryd.prog laidL ((World.doorLaid Tryd.prog 400 os).forCall (fun _ _ => 0) ⟨#[], args, []⟩).memory :=
  laidMetH_of_parts3 (fuel := 8) (laidMet_of_run' 8 (by kernel_rfl) (by kernel_rfl)) (by kernel_rfl) (by kernel_rfl)
theorem trod_six {P : Program} {H : Type} {enc : TypeId × Value → H} {w : World} {fuel : Nat} {t te : TypeId} {a0 a1 a2 a3 a4 a5 : Value} {d : DataW H} {ps : List MemPlace}
    (ht : P.underlying t = some (.array 6 te)) (hE : P.cellsOf te = 1)
    (h : DataW.trod enc P w 0 (fun _ => true) true (fuel + 1) t [a0, a1, a2, a3, a4, a5] = some (d, ps)) :
    ∃ x0 x1 x2 x3 x4 x5, DataW.trod enc P w 0 (fun _ => true) true fuel te [a1] = some x1 ∧ DataW.trod enc P w 0 (fun _ => true) true fuel te [a2] = some x2 ∧ DataW.trod enc P w 0 (fun _ => true) true fuel te [a3] = some x3 ∧ DataW.trod enc P w 0 (fun _ => true) true fuel te [a4] = some x4 ∧ DataW.trod enc P w 0 (fun _ => true) true fuel te [a5] = some x5 ∧
      d = .agg [x0, x1.1, x2.1, x3.1, x4.1, x5.1] := by
  unfold DataW.trod at h
  rw [ht] at h
  simp only [List.length_cons, List.length_nil] at h
  split at h
  · simp only [show List.range 6 = [0, 1, 2, 3, 4, 5] from rfl, List.mapM_cons, List.mapM_nil, hE, Nat.mul_one, List.drop_zero, List.take_succ_cons, List.take_zero, List.drop_succ_cons, Option.map_eq_some_iff] at h
    obtain ⟨xs, h, e'⟩ := h
    cases h0 : DataW.trod enc P w 0 (fun _ => true) true fuel te [a0] with
    | none => simp [h0] at h
    | some x0 =>
      cases h1 : DataW.trod enc P w 0 (fun _ => true) true fuel te [a1] with
      | none => simp [h0, h1] at h
      | some x1 =>
        cases h2 : DataW.trod enc P w 0 (fun _ => true) true fuel te [a2] with
        | none => simp [h0, h1, h2] at h
        | some x2 =>
          cases h3 : DataW.trod enc P w 0 (fun _ => true) true fuel te [a3] with
          | none => simp [h0, h1, h2, h3] at h
          | some x3 =>
            cases h4 : DataW.trod enc P w 0 (fun _ => true) true fuel te [a4] with
            | none => simp [h0, h1, h2, h3, h4] at h
            | some x4 =>
              cases h5 : DataW.trod enc P w 0 (fun _ => true) true fuel te [a5] with
              | none => simp [h0, h1, h2, h3, h4, h5] at h
              | some x5 =>
                simp [h0, h1, h2, h3, h4, h5] at h
                subst h
                simp at e'
                exact ⟨x0.1, x1, x2, x3, x4, x5, rfl, rfl, rfl, rfl, rfl, e'.1.symm⟩
  · simp at h
theorem trod_len {P : Program} {H : Type} {enc : TypeId × Value → H} {w : World} {fuel : Nat} {t te : TypeId} {n : Nat} {l : List Value} {x : DataW H × List MemPlace}
    (ht : P.underlying t = some (.array n te)) (h : DataW.trod enc P w 0 (fun _ => true) true fuel t l = some x) : l.length = P.cellsOf t := by
  cases fuel with
  | zero => simp [DataW.trod] at h
  | succ m =>
    by_cases hl : l.length = P.cellsOf t
    · exact hl
    · exfalso
      unfold DataW.trod at h
      rw [ht] at h
      simp [hl] at h
set_option maxRecDepth 100000 in
theorem glob_of_laid {W : World} (h : laidMetH Tryd.prog laidL W) : GlobOK W := by
  obtain ⟨g, t, cs, fuel, p, hg, ht, hv, hd⟩ := h.funcs (n := "cottonpad/trust.adds") (List.mem_cons_self ..)
  obtain rfl := Option.some.inj (gAdds.symm.trans hg)
  obtain rfl := Option.some.inj (tAdds.symm.trans ht)
  have hd' : DataW.trod (funcToken Tryd.prog) Tryd.prog W 0 (fun _ => true) true fuel 107 cs.toList = some (.agg [.nil, DataW.held [99, 111, 116, 116, 111, 110, 112, 97, 100, 47, 116, 114, 117, 115, 116, 46, 97, 100, 100, 115, 36, 49], DataW.held [99, 111, 116, 116, 111, 110, 112, 97, 100, 47, 116, 114, 117, 115, 116, 46, 97, 100, 100, 115, 36, 50], DataW.held [99, 111, 116, 116, 111, 110, 112, 97, 100, 47, 116, 114, 117, 115, 116, 46, 97, 100, 100, 115, 36, 51], DataW.held [99, 111, 116, 116, 111, 110, 112, 97, 100, 47, 116, 114, 117, 115, 116, 46, 97, 100, 100, 115, 36, 52], DataW.held [99, 111, 116, 116, 111, 110, 112, 97, 100, 47, 116, 114, 117, 115, 116, 46, 97, 100, 100, 115, 36, 53]], p) := hd
  have hlen : cs.toList.length = 6 := (trod_len Tryd.underlying107 hd').trans (by kernel_rfl)
  obtain ⟨l⟩ := cs
  match l, hlen with
  | [a0, a1, a2, a3, a4, a5], _ =>
    cases fuel with
    | zero => simp [DataW.trod] at hd'
    | succ n =>
      obtain ⟨x0, x1, x2, x3, x4, x5, h1, h2, h3, h4, h5, e⟩ := trod_six (te := 106) Tryd.underlying107 (by kernel_rfl) hd'
      simp only [DataW.agg.injEq, List.cons.injEq, and_true] at e
      obtain ⟨_, e1, e2, e3, e4, e5⟩ := e
      obtain ⟨x1d, x1p⟩ := x1
      obtain ⟨x2d, x2p⟩ := x2
      obtain ⟨x3d, x3p⟩ := x3
      obtain ⟨x4d, x4p⟩ := x4
      obtain ⟨x5d, x5p⟩ := x5
      simp only at e1 e2 e3 e4 e5
      subst e1 e2 e3 e4 e5
      obtain rfl := func_of_trod (f0 := 122) Tryd.underlying106 (by kernel_rfl) h1
      obtain rfl := func_of_trod (f0 := 123) Tryd.underlying106 (by kernel_rfl) h2
      obtain rfl := func_of_trod (f0 := 124) Tryd.underlying106 (by kernel_rfl) h3
      obtain rfl := func_of_trod (f0 := 125) Tryd.underlying106 (by kernel_rfl) h4
      obtain rfl := func_of_trod (f0 := 126) Tryd.underlying106 (by kernel_rfl) h5
      unfold World.var? at hv
      rw [gAdds] at hv
      simp only [Option.bind_some] at hv
      cases hh : W.heap[0]? with
      | none => simp [hh] at hv
      | some o =>
        cases o <;> simp [hh] at hv
        subst hv
        intro k hk1 hk2
        have hc : ∀ i (v : Value), [a0, .func (.func 122) #[] #[], .func (.func 123) #[] #[], .func (.func 124) #[] #[], .func (.func 125) #[] #[], .func (.func 126) #[] #[]][i]? = some v → W.cell? ⟨0, i, none⟩ = some v := fun i v h => by
          unfold World.cell?
          rw [hh]
          simpa using h
        rcases (show k = 1 ∨ k = 2 ∨ k = 3 ∨ k = 4 ∨ k = 5 by omega) with rfl | rfl | rfl | rfl | rfl
        all_goals exact hc _ _ rfl
end Go.Proofs.YtcmepdamemnbkaaDoor
namespace Go.Proofs.YtcmepdamemnbkaaDoor
open Go.RowKit Go.Proofs.YtcmepdamemnbkaaDoorW.PrintWords
set_option linter.unusedVariables false
set_option linter.unusedSimpArgs false
end Go.Proofs.YtcmepdamemnbkaaDoor
namespace Go.Proofs.YtcmepdamemnbkaaDoor
open Go.RowKit Go.Proofs.YtcmepdamemnbkaaDoorW.PrintWords
set_option linter.unusedVariables false
set_option linter.unusedSimpArgs false
def recsX (x y : Int) : List RecT := [⟨1, 1, []⟩, ⟨2, 2, []⟩, ⟨3, 3, [[x, y]]⟩, ⟨4, 1, []⟩, ⟨5, 3, [[2, 4]]⟩, ⟨6, 4, [[3], [5]]⟩, ⟨7, 4, [[5, 6]]⟩]
def oddE : List LetT := [⟨1, 10, 8, 1⟩, ⟨2, 20, 1, 2⟩, ⟨3, 20, 4, 1⟩]
def tooE : List MovT := [⟨1, 3, 1, 50⟩, ⟨2, 3, 4, 20⟩, ⟨3, 3, 2, 21⟩, ⟨4, 3, 3, 3⟩, ⟨5, 5, 1, 30⟩, ⟨6, 5, 4, 30⟩]
theorem lettersX_calls (w : World) : Calls Tryd.prog 26 #[] w fun e w' => ∃ b, e = .returned (.slice (some ⟨b, 0, none⟩) 3 3) ∧ WOK w XNone [(b, true, cel [.int .i64 1, .int .i64 10, .int .i64 1, .int .u8 1, .int .i64 2, .int .i64 20, .int .i64 1, .int .u8 2, .int .i64 3, .int .i64 20, .int .i64 4, .int .u8 1] 52)] w' := by
  refine x_calls (X := XNone) Tryd.func26 rfl rfl rfl ?_
  with_reducible repeat refine xc_seq ?_
  with_reducible refine xc_region ?_
  refine xo_asg rfl rfl rfl ?_
  with_reducible refine xo_nil ?_
  with_reducible repeat (first | refine xq_then ?_ | refine xq_blockN ?_ | refine xq_scopeN ?_)
  with_reducible repeat refine xc_seq ?_
  with_reducible refine xc_region ?_
  refine xo_build TB_ rfl rfl rfl rfl rfl ?_
  refine xo_build TB_ rfl rfl rfl rfl rfl ?_
  refine xo_build TB_ rfl rfl rfl rfl rfl ?_
  refine xo_bsG T_ 4 rfl rfl rfl rfl rfl rfl rfl rfl rfl rfl (fun b4 => ?_)
  refine xo_asg rfl rfl rfl ?_
  with_reducible refine xo_nil ?_
  with_reducible repeat (first | refine xq_then ?_ | refine xq_blockN ?_ | refine xq_scopeN ?_)
  with_reducible repeat refine xc_seq ?_
  with_reducible refine xc_ret ?_
  with_reducible repeat (first | refine xq_thenR ?_ | refine xq_blockR ?_ | refine xq_scopeR ?_)
  exact xq_ret1 rfl rfl fun w' hw => ⟨b4, rfl, hw⟩
theorem movesX_calls (w : World) : Calls Tryd.prog 25 #[] w fun e w' => ∃ b, e = .returned (.slice (some ⟨b, 0, none⟩) 6 6) ∧ WOK w XNone [(b, true, cel [.int .i64 1, .int .i64 3, .int .u8 1, .int .i64 50, .int .i64 2, .int .i64 3, .int .u8 4, .int .i64 20, .int .i64 3, .int .i64 3, .int .u8 2, .int .i64 5, .int .i64 4, .int .i64 3, .int .u8 3, .int .i64 3, .int .i64 5, .int .i64 5, .int .u8 1, .int .i64 30, .int .i64 6, .int .i64 5, .int .u8 4, .int .i64 30] 54)] w' := by
  refine x_calls (X := XNone) Tryd.func25 rfl rfl rfl ?_
  with_reducible repeat refine xc_seq ?_
  with_reducible refine xc_region ?_
  refine xo_asg rfl rfl rfl ?_
  with_reducible refine xo_nil ?_
  with_reducible repeat (first | refine xq_then ?_ | refine xq_blockN ?_ | refine xq_scopeN ?_)
  with_reducible repeat refine xc_seq ?_
  with_reducible refine xc_region ?_
  refine xo_build TB_ rfl rfl rfl rfl rfl ?_
  refine xo_build TB_ rfl rfl rfl rfl rfl ?_
  refine xo_build TB_ rfl rfl rfl rfl rfl ?_
  refine xo_build TB_ rfl rfl rfl rfl rfl ?_
  refine xo_build TB_ rfl rfl rfl rfl rfl ?_
  refine xo_build TB_ rfl rfl rfl rfl rfl ?_
  refine xo_bsG T_ 4 rfl rfl rfl rfl rfl rfl rfl rfl rfl rfl (fun b7 => ?_)
  refine xo_asg rfl rfl rfl ?_
  with_reducible refine xo_nil ?_
  with_reducible repeat (first | refine xq_then ?_ | refine xq_blockN ?_ | refine xq_scopeN ?_)
  with_reducible repeat refine xc_seq ?_
  with_reducible refine xc_ret ?_
  with_reducible repeat (first | refine xq_thenR ?_ | refine xq_blockR ?_ | refine xq_scopeR ?_)
  exact xq_ret1 rfl rfl fun w' hw => ⟨b7, rfl, hw⟩
set_option maxHeartbeats 4000000 in
theorem recordsX_calls (w : World) : Calls Tryd.prog 24 #[] w fun e w' => ∃ b17 b15 b14 b12 b11 b10 b8 b7 b4 b3, e = .returned (.slice (some ⟨b17, 0, none⟩) 7 7) ∧ WOK w XNone [(b17, true, cel [.int .i64 1, .int .u8 1, .slice none 0 0, .int .i64 2, .int .u8 2, .slice none 0 0, .int .i64 3, .int .u8 3, .slice (some ⟨b4, 0, none⟩) 1 1, .int .i64 4, .int .u8 1, .slice none 0 0, .int .i64 5, .int .u8 3, .slice (some ⟨b8, 0, none⟩) 1 1, .int .i64 6, .int .u8 4, .slice (some ⟨b12, 0, none⟩) 2 2, .int .i64 7, .int .u8 4, .slice (some ⟨b15, 0, none⟩) 1 1] 50), (b15, true, cel [.slice (some ⟨b14, 0, none⟩) 2 2] 33), (b14, true, cel [.int .i64 5, .int .i64 6] 3), (b12, true, cel [.slice (some ⟨b10, 0, none⟩) 1 1, .slice (some ⟨b11, 0, none⟩) 1 1] 33), (b11, true, cel [.int .i64 5] 3), (b10, true, cel [.int .i64 3] 3), (b8, true, cel [.slice (some ⟨b7, 0, none⟩) 2 2] 33), (b7, true, cel [.int .i64 2, .int .i64 4] 3), (b4, true, cel [.slice (some ⟨b3, 0, none⟩) 2 2] 33), (b3, true, cel [.int .i64 1, .int .i64 2] 3)] w' := by
  refine x_calls (X := XNone) Tryd.func24 rfl rfl rfl ?_
  with_reducible repeat refine xc_seq ?_
  with_reducible refine xc_region ?_
  refine xo_asg rfl rfl rfl ?_
  with_reducible refine xo_nil ?_
  with_reducible repeat (first | refine xq_then ?_ | refine xq_blockN ?_ | refine xq_scopeN ?_)
  with_reducible repeat refine xc_seq ?_
  with_reducible refine xc_region ?_
  refine xo_build TB_ rfl rfl rfl rfl rfl ?_
  refine xo_build TB_ rfl rfl rfl rfl rfl ?_
  refine xo_bs2 T_ rfl rfl rfl rfl rfl rfl rfl rfl rfl rfl (fun b3 => ?_)
  refine xo_bs1 T_ rfl rfl rfl rfl rfl rfl rfl rfl (fun b4 => ?_)
  refine xo_build TB_ rfl rfl rfl rfl rfl ?_
  refine xo_build TB_ rfl rfl rfl rfl rfl ?_
  refine xo_bs2 T_ rfl rfl rfl rfl rfl rfl rfl rfl rfl rfl (fun b7 => ?_)
  refine xo_bs1 T_ rfl rfl rfl rfl rfl rfl rfl rfl (fun b8 => ?_)
  refine xo_build TB_ rfl rfl rfl rfl rfl ?_
  refine xo_bs1 T_ rfl rfl rfl rfl rfl rfl rfl rfl (fun b10 => ?_)
  refine xo_bs1 T_ rfl rfl rfl rfl rfl rfl rfl rfl (fun b11 => ?_)
  refine xo_bs2 T_ rfl rfl rfl rfl rfl rfl rfl rfl rfl rfl (fun b12 => ?_)
  refine xo_build TB_ rfl rfl rfl rfl rfl ?_
  refine xo_bs2 T_ rfl rfl rfl rfl rfl rfl rfl rfl rfl rfl (fun b14 => ?_)
  refine xo_bs1 T_ rfl rfl rfl rfl rfl rfl rfl rfl (fun b15 => ?_)
  refine xo_build TB_ rfl rfl rfl rfl rfl ?_
  refine xo_bsG T_ 3 rfl rfl rfl rfl rfl rfl rfl rfl rfl rfl (fun b17 => ?_)
  refine xo_asg rfl rfl rfl ?_
  with_reducible refine xo_nil ?_
  with_reducible repeat (first | refine xq_then ?_ | refine xq_blockN ?_ | refine xq_scopeN ?_)
  with_reducible repeat refine xc_seq ?_
  with_reducible refine xc_ret ?_
  with_reducible repeat (first | refine xq_thenR ?_ | refine xq_blockR ?_ | refine xq_scopeR ?_)
  exact xq_ret1 rfl rfl fun w' hw => ⟨b17, b15, b14, b12, b11, b10, b8, b7, b4, b3, rfl, hw⟩
theorem recsX_reads {w0 w1 : World} {X : Nat → Prop} {η : Hp} {b17 b15 b14 b12 b11 b10 b8 b7 b4 b3 : Nat} {x0 y0 : Int} (h1 : WOK w0 X η w1) (hs : ∀ e ∈ ([(b17, true, cel [.int .i64 1, .int .u8 1, .slice none 0 0, .int .i64 2, .int .u8 2, .slice none 0 0, .int .i64 3, .int .u8 3, .slice (some ⟨b4, 0, none⟩) 1 1, .int .i64 4, .int .u8 1, .slice none 0 0, .int .i64 5, .int .u8 3, .slice (some ⟨b8, 0, none⟩) 1 1, .int .i64 6, .int .u8 4, .slice (some ⟨b12, 0, none⟩) 2 2, .int .i64 7, .int .u8 4, .slice (some ⟨b15, 0, none⟩) 1 1] 50), (b15, true, cel [.slice (some ⟨b14, 0, none⟩) 2 2] 33), (b14, true, cel [.int .i64 5, .int .i64 6] 3), (b12, true, cel [.slice (some ⟨b10, 0, none⟩) 1 1, .slice (some ⟨b11, 0, none⟩) 1 1] 33), (b11, true, cel [.int .i64 5] 3), (b10, true, cel [.int .i64 3] 3), (b8, true, cel [.slice (some ⟨b7, 0, none⟩) 2 2] 33), (b7, true, cel [.int .i64 2, .int .i64 4] 3), (b4, true, cel [.slice (some ⟨b3, 0, none⟩) 2 2] 33), (b3, true, cel [.int .i64 x0, .int .i64 y0] 3)] : Hp), e ∈ η) : Kd.C recK w1 (some ⟨b17, 0, none⟩) (recsX x0 y0).length (recsX x0 y0) := by
  have hI := fun (b : Nat) (xs : List Int) (hm : (b, true, cel (xs.map (.int .i64)) 3) ∈ η) (hl : xs.length ≤ 100) => C_cel h1 hm (by omega)
  have hW := fun (b : Nat) (vs : List Value) (ways : List (List Int)) (hm : (b, true, cel vs 33) ∈ η) (hl : vs.length = ways.length) (hlen : ways.length ≤ 1000000) h => ways_cel h1 (t := 33) (ways := ways) hm hl hlen h
  refine recs_cel h1 (l := recsX x0 y0) (cells := [recV ⟨1, 1, []⟩ none 0, recV ⟨2, 2, []⟩ none 0, recV ⟨3, 3, [[x0, y0]]⟩ (some ⟨b4, 0, none⟩) 1, recV ⟨4, 1, []⟩ none 0, recV ⟨5, 3, [[2, 4]]⟩ (some ⟨b8, 0, none⟩) 1, recV ⟨6, 4, [[3], [5]]⟩ (some ⟨b12, 0, none⟩) 2, recV ⟨7, 4, [[5, 6]]⟩ (some ⟨b15, 0, none⟩) 1]) (hs (b17, true, _) (List.Mem.head _)) rfl (by simp [recsX]) (fun k x v hx hv => ?_)
  rcases k with _ | _ | _ | _ | _ | _ | _ | k
  · cases hx; cases hv; exact ⟨none, 0, rfl, Nat.le_refl _, Kd.C_nil _ _⟩
  · cases hx; cases hv; exact ⟨none, 0, rfl, Nat.le_refl _, Kd.C_nil _ _⟩
  · cases hx; cases hv
    refine ⟨_, _, rfl, Nat.le_refl _, hW b4 _ [[x0, y0]] (hs (b4, true, _) (by repeat (first | exact List.Mem.head _ | apply List.Mem.tail | apply List.mem_append_right))) rfl (by simp) (fun k x v hx hv => ?_)⟩
    rcases k with _ | k
    · cases hx; cases hv; exact ⟨_, _, rfl, Nat.le_refl _, hI b3 [x0, y0] (hs (b3, true, _) (by repeat (first | exact List.Mem.head _ | apply List.Mem.tail | apply List.mem_append_right))) (by simp)⟩
    · cases hx
  · cases hx; cases hv; exact ⟨none, 0, rfl, Nat.le_refl _, Kd.C_nil _ _⟩
  · cases hx; cases hv
    refine ⟨_, _, rfl, Nat.le_refl _, hW b8 _ [[2, 4]] (hs (b8, true, _) (by repeat (first | exact List.Mem.head _ | apply List.Mem.tail | apply List.mem_append_right))) rfl (by decide) (fun k x v hx hv => ?_)⟩
    rcases k with _ | k
    · cases hx; cases hv; exact ⟨_, _, rfl, Nat.le_refl _, hI b7 [2, 4] (hs (b7, true, _) (by repeat (first | exact List.Mem.head _ | apply List.Mem.tail | apply List.mem_append_right))) (by decide)⟩
    · cases hx
  · cases hx; cases hv
    refine ⟨_, _, rfl, Nat.le_refl _, hW b12 _ [[3], [5]] (hs (b12, true, _) (by repeat (first | exact List.Mem.head _ | apply List.Mem.tail | apply List.mem_append_right))) rfl (by decide) (fun k x v hx hv => ?_)⟩
    rcases k with _ | _ | k
    · cases hx; cases hv; exact ⟨_, _, rfl, Nat.le_refl _, hI b10 [3] (hs (b10, true, _) (by repeat (first | exact List.Mem.head _ | apply List.Mem.tail | apply List.mem_append_right))) (by decide)⟩
    · cases hx; cases hv; exact ⟨_, _, rfl, Nat.le_refl _, hI b11 [5] (hs (b11, true, _) (by repeat (first | exact List.Mem.head _ | apply List.Mem.tail | apply List.mem_append_right))) (by decide)⟩
    · cases hx
  · cases hx; cases hv
    refine ⟨_, _, rfl, Nat.le_refl _, hW b15 _ [[5, 6]] (hs (b15, true, _) (by repeat (first | exact List.Mem.head _ | apply List.Mem.tail | apply List.mem_append_right))) rfl (by decide) (fun k x v hx hv => ?_)⟩
    rcases k with _ | k
    · cases hx; cases hv; exact ⟨_, _, rfl, Nat.le_refl _, hI b14 [5, 6] (hs (b14, true, _) (by repeat (first | exact List.Mem.head _ | apply List.Mem.tail | apply List.mem_append_right))) (by decide)⟩
    · cases hx
  · cases hx
theorem byX (x y : Int) : Bytes (recsX x y) := by
  intro z hz
  simp only [recsX, List.mem_cons, List.not_mem_nil, or_false] at hz
  rcases hz with rfl | rfl | rfl | rfl | rfl | rfl | rfl <;> simp
theorem byLO : BytesL oddE := by unfold BytesL oddE; decide
theorem byMT : BytesM tooE := by unfold BytesM tooE; decide
set_option maxRecDepth 100000
theorem x_o5 : openF recsE letsE 5 [] = 0 := by decide +kernel
theorem x_h5 : holdsR recsE letsE 5 = [1, 2, 3, 4, 5, 6, 7] := by decide +kernel
theorem x_o54 : openF recsE letsE 5 [4] = 0 := by decide +kernel
theorem x_t54 : takesR recsE letsE 5 4 = [4, 5, 7] := by decide +kernel
theorem x_rc107 : refRestsC recsE letsE 10 7 = 0 := by decide +kernel
theorem x_r107 : refRestsR recsE letsE 10 7 = [2, 4, 5, 6, 7] := by decide +kernel
theorem x_cc207 : refCausesC recsE letsE 20 7 = 0 := by decide +kernel
theorem x_c207 : refCausesR recsE letsE 20 7 = [4] := by decide +kernel
theorem x_p3 : piecesR recsE movsE 3 = ⟨50, 5, 3, 20, 0, 32⟩ := by rw [← stEq_iff]; decide +kernel
theorem x_pc3 : piecesC recsE movsE 3 = 0 := by decide +kernel
theorem x_rec20 : recallR recsE letsE movsE 20 = [5] := by decide +kernel
theorem x_recn20 : recallN recsE letsE movsE 20 = 30 := by decide +kernel
theorem x_recc20 : recallC recsE letsE movsE 20 = 0 := by decide +kernel
theorem x_on : openF recsE letsE (-1) [] = 2 := by decide +kernel
theorem x_o58 : openF recsE letsE 5 [8] = 6 := by decide +kernel
theorem x_rc103 : refRestsC recsE letsE 10 3 = 8 := by decide +kernel
theorem x_cc107 : refCausesC recsE letsE 10 7 = 8 := by decide +kernel
theorem x_pct : piecesC recsE tooE 3 = 82 := by decide +kernel
theorem x_recct : recallC recsE letsE tooE (-1) = 82 := by decide +kernel
theorem x_ahead : checkF (recsX 1 4) letsE = 80 := by decide +kernel
theorem x_odd : checkF recsE oddE = 81 := by decide +kernel
theorem check_enters' : ∀ args w, (callFunc 32 args).run Tryd.prog w = .ok (.enter 32 args) w := enters_of Tryd.func32 (by kernel_rfl) rfl
end Go.Proofs.YtcmepdamemnbkaaDoor
namespace Go.Proofs.YtcmepdamemnbkaaDoor
open Go.RowKit Go.Proofs.YtcmepdamemnbkaaDoorW.PrintWords
end Go.Proofs.YtcmepdamemnbkaaDoor
namespace Go.Proofs.YtcmepdamemnbkaaDoor
open Go.RowKit Go.Proofs.YtcmepdamemnbkaaDoorW.PrintWords
end Go.Proofs.YtcmepdamemnbkaaDoor
namespace Go.Proofs.YtcmepdamemnbkaaDoor
open Go.RowKit Go.Proofs.YtcmepdamemnbkaaDoorW.PrintWords
set_option linter.unusedVariables false
set_option linter.unusedSimpArgs false
end Go.Proofs.YtcmepdamemnbkaaDoor
namespace Go.Proofs.YtcmepdamemnbkaaDoor
open Go.RowKit Go.Proofs.YtcmepdamemnbkaaDoorW.PrintWords
end Go.Proofs.YtcmepdamemnbkaaDoor
namespace Go.Proofs.YtcmepdamemnbkaaDoor
open Go.RowKit Go.Proofs.YtcmepdamemnbkaaDoorW.PrintWords
set_option linter.unusedVariables false
set_option linter.unusedSimpArgs false
end Go.Proofs.YtcmepdamemnbkaaDoor
namespace Go.Proofs.YtcmepdamemnbkaaDoor
open Go.RowKit Go.Proofs.YtcmepdamemnbkaaDoorW.PrintWords
end Go.Proofs.YtcmepdamemnbkaaDoor
namespace Go.Proofs.YtcmepdamemnbkaaDoor
open Go.RowKit Go.Proofs.YtcmepdamemnbkaaDoorW.PrintWords
set_option linter.unusedVariables false
set_option linter.unusedSimpArgs false
theorem eqMov (d : Nat) (w : World) (x y : MovT) :
    (Op.equalIn (d + 2) 54 (.agg (movV x).toArray) (.agg (movV y).toArray)).run Tryd.prog w = .ok (x.f0 == y.f0 && (x.f1 == y.f1 && (x.f2 == y.f2 && (x.f3 == y.f3)))) w := by
  refine eqA_of Tryd.underlying54 (by kernel_rfl) ?_
  refine eqf_cons (by rfl) (by go_simp; rfl) (by go_simp; rfl) (by go_simp) ?_
  refine eqf_cons (by rfl) (by go_simp; rfl) (by go_simp; rfl) (by go_simp) ?_
  refine eqf_cons (by rfl) (by go_simp; rfl) (by go_simp; rfl) (by go_simp) ?_
  exact eqf_last (by rfl) (by go_simp; rfl) (by go_simp; rfl) (by go_simp)
section
variable {ro : Option Nat} {n N : Nat} {ds : List Deferred} {w0 : World} {X : Nat → Prop} {Q : Exit → Act → World → Prop} {σ : Slots} {η : Hp} {ops rest : List Oper} {d : Option Tmp} {ty pos aft} {g : Option (Nat × Bool)}
attribute [local go_sem high] eqMov
end
end Go.Proofs.YtcmepdamemnbkaaDoor
namespace Go.Proofs.YtcmepdamemnbkaaDoor
open Go.RowKit Go.Proofs.YtcmepdamemnbkaaDoorW.PrintWords
set_option linter.unusedVariables false
set_option linter.unusedSimpArgs false
theorem eq_st {x : StT} : stEq x x = true := stEq_iff.2 rfl
end Go.Proofs.YtcmepdamemnbkaaDoor
