/- trust: (shelf).holds and what it yields; slices.AppendSeq, Collect. -/
import Derived.Test.YtcmepdamemnbkaaTLat
import Derived.Test.YtcmepdamemnbkaaSI
import Derived.Test.YtcmepdamemnbkaaTColl
namespace Go.Proofs.Ytcmepdamemnbkaa
open Go.RowKit Go.Proofs.YtcmepdamemnbkaaW.PrintWords
set_option linter.unusedVariables false
set_option linter.unusedSimpArgs false
def holdsL (gone : List Int) : List Int → List RecT → List Int
  | _, [] => []
  | bs, x :: r => if decide (x.f0 ∈ gone) || !standsF bs x.f2 then holdsL gone bs r else x.f0 :: holdsL gone (insN x.f0 bs) r
def holdsF (r : List RecT) (gone : List Int) : List Int := holdsL gone [] r
theorem holds_calls (A : Option Addr) (n c : Nat) (M0 G : Nat) (w : World) :
    Calls Try.prog 22 #[.agg #[.slice A n c, .map (some M0)], .map (some G)] w fun e w' => ∃ b2 b3, e = .returned (.func (.func 47) #[] #[.pointer (some ⟨b2, 0, none⟩), .pointer (some ⟨b3, 0, none⟩)]) ∧ w.heap.size ≤ b2 ∧ w.heap.size ≤ b3 ∧ b2 ≠ b3 ∧
      w'.heap[b2]? = some (.cells #[.slice A n c, .map (some M0)] 46 (0, 0)) ∧ w'.heap[b3]? = some (.cells #[.map (some G)] 44 (0, 0)) ∧ Below w.heap.size w w' := by
  refine x_calls (X := XNone) Try.func22 rfl rfl rfl ?_
  with_reducible repeat refine xc_seq ?_
  with_reducible refine xc_region ?_
  refine xo_box rfl rfl rfl rfl (fun b2 => ?_)
  refine xo_box rfl rfl rfl rfl (fun b3 => ?_)
  refine xo_asg rfl rfl rfl ?_
  with_reducible refine xo_nil ?_
  with_reducible repeat (first | refine xq_then ?_ | refine xq_blockN ?_ | refine xq_scopeN ?_)
  with_reducible repeat refine xc_seq ?_
  with_reducible refine xc_region ?_
  refine xo_mkf rfl rfl rfl rfl ?_
  refine xo_asg rfl rfl rfl ?_
  with_reducible refine xo_nil ?_
  with_reducible repeat (first | refine xq_then ?_ | refine xq_blockN ?_ | refine xq_scopeN ?_)
  with_reducible repeat refine xc_seq ?_
  with_reducible refine xc_ret ?_
  with_reducible repeat (first | refine xq_thenR ?_ | refine xq_blockR ?_ | refine xq_scopeR ?_)
  refine xq_ret1 rfl rfl fun w' hw => ⟨b2, b3, rfl, hw.own (by repeat (first | exact List.Mem.head _ | apply List.Mem.tail | apply List.mem_append_right)), hw.own (by repeat (first | exact List.Mem.head _ | apply List.Mem.tail | apply List.mem_append_right)), ?_, hw.obj (wr := true) (cs := [.slice A n c, .map (some M0)]) (by repeat (first | exact List.Mem.head _ | apply List.Mem.tail | apply List.mem_append_right)), hw.obj (wr := true) (cs := [.map (some G)]) (by repeat (first | exact List.Mem.head _ | apply List.Mem.tail | apply List.mem_append_right)), hw.kx.below⟩
  have := hw.nd
  simp at this
  exact fun e => this e.symm
theorem holds_enters : ∀ args w, (callFunc 22 args).run Try.prog w = .ok (.enter 22 args) w := enters_of Try.func22 (by kernel_rfl) rfl
theorem iter_enters : ∀ args w, (callFunc 47 args).run Try.prog w = .ok (.enter 47 args) w := enters_of Try.func47 (by kernel_rfl) rfl
theorem kd_same {wB w : World} (hs : SameB wB w) {d : Kd Int} (hd : d = Kd.int .i64) {x : Int} {cs : List Value} (h : d.K wB x cs) : d.K w x cs := by subst hd; exact h
theorem C_same {wB w : World} (hs : SameB wB w) {α : Type} {d : Kd α} (hd : ∀ x cs, d.K wB x cs → d.K w x cs) {A : Option Addr} {n : Nat} {xs : List α} (h : Kd.C d wB A n xs) : Kd.C d w A n xs := by
  refine ⟨h.1, h.2.1, fun hn => ?_⟩
  obtain ⟨ad, e, hc⟩ := h.2.2 hn
  refine ⟨ad, e, fun j p hj => ?_⟩
  obtain ⟨cs, h1, h2, h3⟩ := hc j p hj
  exact ⟨cs, h1, hd _ _ h2, fun i u hu => hs.cell (h3 i u hu)⟩
theorem ints_same {wB w : World} (hs : SameB wB w) {A : Option Addr} {n : Nat} {xs : List Int} (h : Kd.C (Kd.int .i64) wB A n xs) : Kd.C (Kd.int .i64) w A n xs := C_same hs (fun x cs h => h) h
theorem ways_same {wB w : World} (hs : SameB wB w) {A : Option Addr} {n : Nat} {xs : List (List Int)} (h : Kd.C waysK wB A n xs) : Kd.C waysK w A n xs :=
  C_same (d := waysK) hs (fun x cs h => by obtain ⟨A, c, h1, h2, h3⟩ := h; exact ⟨A, c, h1, h2, ints_same hs h3⟩) h
/-- what the iterator needs -/
def needOf (w0 : World) (b2 b3 G : Nat) : Nat → Prop := fun k => k < w0.heap.size ∨ k = b2 ∨ k = b3 ∨ k = G
set_option maxHeartbeats 4000000 in
theorem iter_holds (A : Option Addr) (c : Nat) (r : List RecT) (gone : List Int) (M0 G b2 b3 : Nat) (w0 wB : World) (hr : Kd.C recK w0 A r.length r) (h0B : SameB w0 wB) (hsz0 : w0.heap.size ≤ wB.heap.size)
    (h2 : wB.heap[b2]? = some (.cells #[.slice A r.length c, .map (some M0)] 46 (0, 0))) (h3 : wB.heap[b3]? = some (.cells #[.map (some G)] 44 (0, 0))) (hG : IMap wB G (setV gone)) (h23 : b2 ≠ b3) :
    Iter Try.prog 47 [.pointer (some ⟨b2, 0, none⟩), .pointer (some ⟨b3, 0, none⟩)] wB (needOf w0 b2 b3 G) (holdsF r gone) := by
  have hn := hr.2.1
  intro w hszB hneed K hK m l J Jx W hW hJ hJx hY h0
  have lt2 : b2 < wB.heap.size := (Array.getElem?_eq_some_iff.1 h2).1
  have lt3 : b3 < wB.heap.size := (Array.getElem?_eq_some_iff.1 h3).1
  have ltG := hG.lt
  have hWn : ∀ k, needOf w0 b2 b3 G k → W.heap[k]? = wB.heap[k]? := fun k hk => by
    have hkl : k < wB.heap.size := by rcases hk with h | h | h | h <;> omega
    exact (hW.block k (by omega)).trans (hneed k hk)
  have g2 : W.heap[b2]? = _ := (hWn b2 (.inr (.inl rfl))).trans h2
  have g3 : W.heap[b3]? = _ := (hWn b3 (.inr (.inr (.inl rfl)))).trans h3
  have gG : IMap W G (setV gone) := hG.at_ (hWn G (.inr (.inr (.inr rfl))))
  have hS0 : SameB w0 W := fun k hk => (hWn k (.inl hk)).trans (h0B k hk)
  have hszW : w0.heap.size ≤ W.heap.size := by have := hW.size; omega
  have n2G : b2 ≠ G := fun e => by obtain ⟨es, cl, h, _⟩ := gG; rw [← e, g2] at h; cases h
  have n3G : b3 ≠ G := fun e => by obtain ⟨es, cl, h, _⟩ := gG; rw [← e, g3] at h; cases h
  have hw0 : WOK W XNone [(b2, false, cel [.slice A r.length c, .map (some M0)] 46), (b3, false, cel [.map (some G)] 44), (G, false, hmap (setV gone))] W := by
    refine ⟨Kx.refl _ W, ?_, by simp [h23, n2G, n3G], by simp⟩
    intro e he
    simp only [List.mem_cons, List.not_mem_nil, or_false] at he
    rcases he with rfl | rfl | rfl
    · exact ⟨_, g2, rfl⟩
    · exact ⟨_, g3, rfl⟩
    · exact hmap_of gG
  refine x_iter Try.func47 rfl rfl rfl hw0 ?_
  with_reducible repeat refine xc_seq ?_
  with_reducible refine xc_region ?_
  refine xo_mkm rfl rfl (fun b8 => ?_)
  refine xo_asg rfl rfl rfl ?_
  with_reducible refine xo_nil ?_
  with_reducible repeat (first | refine xq_then ?_ | refine xq_blockN ?_ | refine xq_scopeN ?_)
  with_reducible repeat refine xc_seq ?_
  with_reducible refine xc_region ?_
  refine xo_fa T_ rfl rfl rfl rfl rfl ?_
  refine xo_load0 T_ rfl rfl rfl (by repeat (first | exact List.Mem.head _ | apply List.Mem.tail | apply List.mem_append_right)) rfl rfl ?_
  refine xo_len T_ rfl rfl rfl rfl ?_
  refine xo_mv rfl rfl rfl ?_
  with_reducible refine xo_nil ?_
  with_reducible repeat (first | refine xq_then ?_ | refine xq_blockN ?_ | refine xq_scopeN ?_)
  with_reducible repeat refine xc_seq ?_
  with_reducible refine xc_block ?_
  refine xc_loopJ (γ := Nat × List Int × List Int) (fun q => q.1 ≤ r.length ∧ q.2.2 ++ holdsL gone q.2.1 (r.drop q.1) = holdsF r gone) (fun q => [(0, .func (.yield l) #[] #[]), (2, .pointer (some ⟨b3, 0, none⟩)), (4, .map (some b8)), (10, .slice A r.length c), (11, .int .i64 (r.length : Int)), (12, .int .i64 (q.1 : Int))])
    (fun q => [(b8, true, hmap (setV q.2.1)), (b3, false, cel [.map (some G)] 44), (G, false, hmap (setV gone))]) (fun q w => J q.2.2 w ∧ W.heap.size ≤ b8 ∧ W.heap.size ≤ w.heap.size ∧ SameB w0 w) (fun q => r.length - q.1) (0, [], []) ⟨Nat.zero_le _, rfl⟩ ⟨rfl, rfl, rfl, rfl, rfl, rfl, trivial⟩
    (fun w1 hw1 => ⟨hw1.bok (by repeat (first | exact List.Sublist.refl _ | apply List.Sublist.cons_cons | apply List.Sublist.cons | exact List.nil_sublist _)), hJ _ _ _ none h0 (hw1.kx.grown (fun k q => q.elim)) (fun r e => by cases e), hw1.own (b := b8) (by repeat (first | exact List.Mem.head _ | apply List.Mem.tail | apply List.mem_append_right)), hw1.kx.size, hS0.kx hszW hw1.kx (fun b q => q.elim)⟩) ?_
  rintro ⟨k, bs, ys⟩ ⟨hk1, hys⟩ wr hbok ⟨hJr, hb8, hszr, hSr⟩
  simp only at hk1 hys hJr ⊢
  have hXW : ∀ b, XW [(b8, true, hmap (setV bs)), (b3, false, cel [.map (some G)] 44), (G, false, hmap (setV gone))] b → b8 = b := by
    rintro b ⟨e, he, hwr, rfl⟩
    simp only [List.mem_cons, List.not_mem_nil, or_false] at he
    rcases he with rfl | rfl | rfl
    · rfl
    · cases hwr
    · cases hwr
  have hX0 : ∀ b, XW [(b8, true, hmap (setV bs)), (b3, false, cel [.map (some G)] 44), (G, false, hmap (setV gone))] b → w0.heap.size ≤ b := fun b h => by have := hXW b h; omega
  have hszr0 : w0.heap.size ≤ wr.heap.size := by omega
  have hwalk : ∀ wx, IMap wx b8 (setV bs) → ∀ q, some b8 = some q → W.heap.size ≤ q ∧ ∃ o : Obj, wx.heap[q]? = some o ∧ o.isWalk = true := fun wx ⟨es, cl, h, _⟩ q e => by
    cases e
    exact ⟨hb8, _, h, rfl⟩
  have hMr : IMap wr b8 (setV bs) := by
    obtain ⟨o, h5, h6⟩ := hbok.bl (b8, true, hmap (setV bs)) (by repeat (first | exact List.Mem.head _ | apply List.Mem.tail | apply List.mem_append_right))
    exact imap_of h5 h6
  have hJn : ∀ (X : Nat → Prop) (w1 : World), (∀ b, X b → b8 = b) → Kx X wr w1 → J ys w1 := fun X w1 hX kx => hJ ys wr w1 (some b8) hJr (kx.grown (fun k q => congrArg some (hX k q))) (hwalk wr hMr)
  with_reducible repeat refine xc_seq ?_
  with_reducible refine xc_region ?_
  refine xo_lss rfl rfl rfl rfl ?_
  with_reducible refine xo_nil ?_
  with_reducible repeat (first | refine xq_then ?_ | refine xq_blockN ?_ | refine xq_scopeN ?_)
  with_reducible repeat refine xc_seq ?_
  refine xc_cond rfl (fun h => ?_) (fun h => ?_)
  · have hlt : k < r.length := by have := of_decide_eq_true h; omega
    obtain ⟨ad, A2, c2, rfl, r1, hc2, hw2⟩ := rec_at hr k hlt
    replace r1 := r1.same hSr hX0
    rw [drop_at r zRec k hlt, holdsL] at hys
    generalize r.getD k zRec = x at *
    with_reducible refine xc_skip ?_
    with_reducible repeat (first | refine xq_then ?_ | refine xq_blockN ?_ | refine xq_scopeN ?_)
    with_reducible repeat refine xc_seq ?_
    with_reducible refine xc_block ?_
    with_reducible repeat refine xc_seq ?_
    with_reducible refine xc_region ?_
    refine xo_ia T_ rfl rfl rfl rfl rfl ⟨by omega, by omega⟩ rfl ?_
    refine xo_loadRN T_ rfl rfl rfl (by assumption) rfl rfl ?_
    refine xo_alloc T_ rfl rfl rfl rfl (fun b6 => ?_)
    refine xo_store T_ rfl rfl rfl rfl (by repeat (first | exact List.Mem.head _ | apply List.Mem.tail | apply List.mem_append_right)) rfl rfl rfl rfl (by repeat (first | exact Upd.head | apply Upd.tail | apply Upd.app)) rfl ?_
    with_reducible refine xo_nil ?_
    with_reducible repeat (first | refine xq_then ?_ | refine xq_blockN ?_ | refine xq_scopeN ?_)
    with_reducible repeat refine xc_seq ?_
    with_reducible refine xc_region ?_
    refine xo_loadN T_ rfl rfl rfl (by repeat (first | exact List.Mem.head _ | apply List.Mem.tail | apply List.mem_append_right)) rfl rfl ?_
    refine xo_mv rfl rfl rfl ?_
    refine xo_build TB_ rfl rfl rfl rfl rfl ?_
    refine xo_alloc T_ rfl rfl rfl rfl (fun b7 => ?_)
    refine xo_store T_ rfl rfl rfl rfl (by repeat (first | exact List.Mem.head _ | apply List.Mem.tail | apply List.mem_append_right)) rfl rfl rfl rfl (by repeat (first | exact Upd.head | apply Upd.tail | apply Upd.app)) rfl ?_
    with_reducible refine xo_nil ?_
    with_reducible repeat (first | refine xq_then ?_ | refine xq_blockN ?_ | refine xq_scopeN ?_)
    cases hgo : decide (x.f0 ∈ gone) <;> cases hst : !standsF bs x.f2
    all_goals
      with_reducible repeat refine xc_seq ?_
      with_reducible refine xc_region ?_
      refine xo_load0 T_ rfl rfl rfl (by repeat (first | exact List.Mem.head _ | apply List.Mem.tail | apply List.mem_append_right)) rfl rfl ?_
      refine xo_fa T_ rfl rfl rfl rfl rfl ?_
      refine xo_fa T_ rfl rfl rfl rfl rfl ?_
      refine xo_load0 T_ rfl rfl rfl (by repeat (first | exact List.Mem.head _ | apply List.Mem.tail | apply List.mem_append_right)) rfl rfl ?_
      refine xo_sget T_ rfl rfl rfl rfl rfl rfl (by repeat (first | exact List.Mem.head _ | apply List.Mem.tail | apply List.mem_append_right)) rfl ?_
      refine xo_mv rfl rfl rfl ?_
      refine xo_as (i := 24) rfl (congrArg Value.bool hgo) ?_
      first
        | refine xo_not rfl rfl ?_
        | (refine xo_loadN T_ rfl rfl rfl (by repeat (first | exact List.Mem.head _ | apply List.Mem.tail | apply List.mem_append_right)) rfl rfl ?_)
      first
        | refine xo_not rfl rfl ?_
        | (refine xo_callB (fs := []) (cs := []) rfl rfl rfl stands_enters rfl (fun w1 hw1 => stands_calls x.f0 x.f1 A2 c2 b8 x.f2 bs w1 (ways_same (hSr.kx hszr0 hw1.kx hX0) hw2) (hw1.imap (wr := true) (by repeat (first | exact List.Mem.head _ | apply List.Mem.tail | apply List.mem_append_right)))) ?_)
      first
        | refine xo_not rfl rfl ?_
        | (refine xo_notOp rfl rfl rfl ?_)
      first | refine xo_pickT rfl rfl rfl rfl ?_ | refine xo_pickF rfl rfl rfl rfl ?_
      first | refine xo_as (i := 28) rfl (congrArg Value.bool hst) ?_ | skip
      with_reducible refine xo_nil ?_
      with_reducible repeat (first | refine xq_then ?_ | refine xq_blockN ?_ | refine xq_scopeN ?_)
      with_reducible repeat refine xc_seq ?_
      first | refine xc_condT rfl ?_ | refine xc_condF rfl ?_
    rotate_left
    iterate 3
      · with_reducible refine xc_exit ?_
        with_reducible repeat (first | refine xq_blockX ?_ | refine xq_thenE ?_ | refine xq_blockE rfl ?_ | refine xq_scopeE ?_)
        with_reducible repeat (first | refine xq_then ?_ | refine xq_blockN ?_ | refine xq_scopeN ?_)
        with_reducible repeat refine xc_seq ?_
        with_reducible refine xc_region ?_
        refine xo_add rfl rfl rfl (by omega) rfl ?_
        refine xo_mv rfl rfl rfl ?_
        with_reducible refine xo_nil ?_
        with_reducible repeat (first | refine xq_then ?_ | refine xq_blockN ?_ | refine xq_scopeN ?_)
        refine xq_againJ _ _ _ _ _ _ (k + 1, bs, ys) ⟨hlt, ?_⟩ (by first | omega | (simp only; omega)) ⟨rfl, rfl, rfl, rfl, rfl, rfl, trivial⟩ (fun w1 hw1 => ⟨hw1.bok (by repeat (first | exact List.Sublist.refl _ | apply List.Sublist.cons_cons | apply List.Sublist.cons | exact List.nil_sublist _)), hJn _ _ hXW hw1.kx, hb8, Nat.le_trans hszr hw1.kx.size, hSr.kx hszr0 hw1.kx hX0⟩)
        simpa only [hgo, hst, Bool.true_or, Bool.or_true, Bool.false_or, Bool.or_false, ↓reduceIte] using hys
    have hys2 : ys ++ x.f0 :: holdsL gone (insN x.f0 bs) (r.drop (k + 1)) = holdsF r gone := by simpa only [hgo, hst, Bool.or_self, Bool.false_eq_true, ↓reduceIte] using hys
    have hlen : ys.length < (holdsF r gone).length := by rw [← hys2]; simp
    with_reducible refine xc_skip ?_
    with_reducible repeat (first | refine xq_then ?_ | refine xq_blockN ?_ | refine xq_scopeN ?_)
    with_reducible repeat refine xc_seq ?_
    with_reducible refine xc_region ?_
    refine xo_mv rfl rfl rfl ?_
    refine xo_fa T_ rfl rfl rfl rfl rfl ?_
    refine xo_fa T_ rfl rfl rfl rfl rfl ?_
    refine xo_load0 T_ rfl rfl rfl (by repeat (first | exact List.Mem.head _ | apply List.Mem.tail | apply List.mem_append_right)) rfl rfl ?_
    refine xo_sins T_ rfl rfl rfl rfl rfl rfl (by repeat (first | exact List.Mem.head _ | apply List.Mem.tail | apply List.mem_append_right)) (by repeat (first | exact Upd.head | apply Upd.tail | apply Upd.app)) rfl ?_
    with_reducible refine xo_nil ?_
    with_reducible repeat (first | refine xq_then ?_ | refine xq_blockN ?_ | refine xq_scopeN ?_)
    with_reducible refine xc_seq ?_
    with_reducible repeat refine xc_seq ?_
    with_reducible refine xc_region ?_
    refine xo_mv rfl rfl rfl ?_
    refine xo_fa T_ rfl rfl rfl rfl rfl ?_
    refine xo_fa T_ rfl rfl rfl rfl rfl ?_
    refine xo_load0 T_ rfl rfl rfl (by repeat (first | exact List.Mem.head _ | apply List.Mem.tail | apply List.mem_append_right)) rfl rfl ?_
    refine xo_yield rfl rfl rfl rfl (fun w1 hw1 => ?_)
    obtain ⟨fn, tmps, assign, body, hy1, hy2⟩ := hY ys x.f0 w1 (hJn _ _ hXW hw1.kx) hlen
    refine ⟨fn, tmps, assign, body, hy1, hy2.mono ?_⟩
    have hS1 := hSr.kx hszr0 hw1.kx hX0
    have hM1 : IMap w1 b8 (setV (insN x.f0 bs)) := hw1.imap (wr := true) (by repeat (first | exact List.Mem.head _ | apply List.Mem.tail | apply List.mem_append_right))
    have hG1 : IMap w1 G (setV gone) := hw1.imap (wr := false) (by repeat (first | exact List.Mem.head _ | apply List.Mem.tail | apply List.mem_append_right))
    have h31 := hw1.obj (b := b3) (wr := false) (cs := [.map (some G)]) (t := 44) (by repeat (first | exact List.Mem.head _ | apply List.Mem.tail | apply List.mem_append_right))
    have hnd1 := hw1.nd
    have hsz1 := hw1.kx.size
    clear hw1 hy1 hy2 hys
    rintro e W3 (⟨rfl, hJ3, hk3⟩ | ⟨rfl, hJx3⟩)
    · have hM3 : IMap W3 b8 (setV (insN x.f0 bs)) := by
        obtain ⟨es, cl, h5, h6⟩ := hM1
        exact ⟨es, cl, hk3.2.2 b8 _ (by have := hW.size; omega) h5 rfl, h6⟩
      have hG3 : IMap W3 G (setV gone) := hG1.at_ (hk3.1 G (hK G (.inr (.inr (.inr rfl)))))
      have h33 := (hk3.1 b3 (hK b3 (.inr (.inr (.inl rfl))))).trans h31
      have hS3 : SameB w0 W3 := fun q hq => (hk3.1 q (hK q (.inl hq))).trans (hS1 q hq)
      have n83 : b8 ≠ b3 := by have := hW.size; omega
      have n8G : b8 ≠ G := by have := hW.size; omega
      have hsz3 : W.heap.size ≤ W3.heap.size := by have := hk3.2.1; omega
      have hbok3 : BOK [(b8, true, hmap (setV (insN x.f0 bs))), (b3, false, cel [.map (some G)] 44), (G, false, hmap (setV gone))] W3 := by
        refine ⟨?_, by simp [n83, n8G, n3G]⟩
        intro e he
        simp only [List.mem_cons, List.not_mem_nil, or_false] at he
        rcases he with rfl | rfl | rfl
        · exact hmap_of hM3
        · exact ⟨_, h33, rfl⟩
        · exact hmap_of hG3
      refine ⟨.bool true, _, W3, _, rfl, hbok3.wok, ?_⟩
      refine xo_notOp rfl rfl rfl ?_
      with_reducible refine xo_nil ?_
      with_reducible repeat (first | refine xq_then ?_ | refine xq_blockN ?_ | refine xq_scopeN ?_)
      with_reducible repeat refine xc_seq ?_
      refine xc_condF rfl ?_
      with_reducible refine xc_skip ?_
      with_reducible repeat (first | refine xq_then ?_ | refine xq_blockN ?_ | refine xq_scopeN ?_)
      with_reducible repeat refine xc_seq ?_
      with_reducible refine xc_region ?_
      refine xo_add rfl rfl rfl (by omega) rfl ?_
      refine xo_mv rfl rfl rfl ?_
      with_reducible refine xo_nil ?_
      with_reducible repeat (first | refine xq_then ?_ | refine xq_blockN ?_ | refine xq_scopeN ?_)
      have hXW3 : ∀ b, XW [(b8, true, hmap (setV (insN x.f0 bs))), (b3, false, cel [.map (some G)] 44), (G, false, hmap (setV gone))] b → b8 = b := by
        rintro b ⟨e, he, hwr, rfl⟩
        simp only [List.mem_cons, List.not_mem_nil, or_false] at he
        rcases he with rfl | rfl | rfl
        · rfl
        · cases hwr
        · cases hwr
      refine xq_againJ _ _ _ _ _ _ (k + 1, insN x.f0 bs, ys ++ [x.f0]) ⟨hlt, by simp only [List.append_assoc, List.cons_append, List.nil_append]; exact hys2⟩ (by first | omega | (simp only; omega)) ⟨rfl, rfl, rfl, rfl, rfl, rfl, trivial⟩
        (fun w1 hw1 => ⟨hw1.bok (by repeat (first | exact List.Sublist.refl _ | apply List.Sublist.cons_cons | apply List.Sublist.cons | exact List.nil_sublist _)), hJ _ W3 w1 (some b8) hJ3 (hw1.kx.grown (fun k q => congrArg some (hXW3 k q))) (fun q e => by cases e; obtain ⟨es, cl, h5, _⟩ := hM3; exact ⟨hb8, _, h5, rfl⟩), hb8, Nat.le_trans hsz3 hw1.kx.size, hS3.kx (by omega) hw1.kx (fun b h => by have := hXW3 b h; omega)⟩)
    · refine ⟨.bool false, [], W3, XNone, rfl, WOK.start _ _, ?_⟩
      refine xo_notOp rfl rfl rfl ?_
      with_reducible refine xo_nil ?_
      with_reducible repeat (first | refine xq_then ?_ | refine xq_blockN ?_ | refine xq_scopeN ?_)
      with_reducible repeat refine xc_seq ?_
      refine xc_condT rfl ?_
      with_reducible repeat refine xc_seq ?_
      with_reducible refine xc_ret ?_
      with_reducible repeat (first | refine xq_thenR ?_ | refine xq_blockR ?_ | refine xq_scopeR ?_)
      exact xq_ret0 rfl fun w2 hw2 => ⟨⟨_, rfl⟩, .inr ⟨_, trivial, hJx _ W3 w2 none hJx3 (hw2.kx.grown (fun k q => q.elim)) (fun r e => by cases e)⟩⟩
  · have hge : ¬ k < r.length := by have := of_decide_eq_false h; omega
    rw [List.drop_of_length_le (by omega), holdsL, List.append_nil] at hys
    with_reducible refine xc_exit ?_
    with_reducible repeat (first | refine xq_blockX ?_ | refine xq_thenE ?_ | refine xq_blockE rfl ?_ | refine xq_scopeE ?_)
    exact xq_end0 rfl fun w2 hw2 => ⟨⟨_, rfl⟩, .inl ⟨ys, hys, hJn _ _ hXW hw2.kx⟩⟩
end Go.Proofs.Ytcmepdamemnbkaa
namespace Go.Proofs.Ytcmepdamemnbkaa
open Go.RowKit Go.Proofs.YtcmepdamemnbkaaW.PrintWords
set_option linter.unusedVariables false
set_option linter.unusedSimpArgs false
section
variable {ro : Option Nat} {n N : Nat} {ds : List Deferred} {w0 : World} {X : Nat → Prop} {Q : Exit → Act → World → Prop} {ops : List Oper} {σ : Slots} {η : Hp} {rest : List Oper}
variable {d : Option Tmp} {ty : TypeId} {pos : String} {aft : Array Edge} {g : Option (Nat × Bool)}
/-- the call of holds -/
theorem xo_holds {x y : Operand} {ats : Array TypeId} {A : Option Addr} {k c M0 G : Nat} (hg : gS ops σ g = some true) (hx : ev σ x = some (.agg #[.slice A k c, .map (some M0)])) (hy : ev σ y = some (.map (some G))) (hN : dstOK N d = true)
    (h : ∀ b2 b3, XO Try.prog ro n N ds w0 X Q ops (putS d (.func (.func 47) #[] #[.pointer (some ⟨b2, 0, none⟩), .pointer (some ⟨b3, 0, none⟩)]) σ) ((b3, true, cel [.map (some G)] 44) :: (b2, true, cel [.slice A k c, .map (some M0)] 46) :: η) rest) :
    XO Try.prog ro n N ds w0 X Q ops σ η (⟨d, .call { callee := .value (.func 22), args := #[x, y], argTypes := ats }, ty, pos, aft, g⟩ :: rest) := by
  refine xo_call (xs := [x, y]) (vs := [.agg #[.slice A k c, .map (some M0)], .map (some G)]) (fs := []) (cs := []) hg rfl (by simp [evs, hx, hy]) holds_enters hN (fun w3 hw3 => (holds_calls A k c M0 G w3).mono ?_)
  rintro e w4 ⟨b2, b3, rfl, hb2, hb3, h23, h2, h3, hb4⟩
  exact ⟨_, _, rfl, hw3.more2 (φ := cel [.slice A k c, .map (some M0)] 46) (φ2 := cel [.map (some G)] 44) hb4 hb2 hb3 h23 h2 h3 rfl rfl, h b2 b3⟩
/-- what Collect makes of what it yields -/
theorem xo_collect {x : Operand} {ats : Array TypeId} {A : Option Addr} {c M0 G b2 b3 : Nat} {wr : Bool} {r : List RecT} {gone : List Int} (hr : Kd.C recK w0 A r.length r) (hlen : r.length ≤ 1000000) (hg : gS ops σ g = some true) (hx : ev σ x = some (.func (.func 47) #[] #[.pointer (some ⟨b2, 0, none⟩), .pointer (some ⟨b3, 0, none⟩)]))
    (h2 : (b2, true, cel [.slice A r.length c, .map (some M0)] 46) ∈ η) (h3 : (b3, true, cel [.map (some G)] 44) ∈ η) (hG : (G, wr, hmap (setV gone)) ∈ η) (h23 : ∀ w, WOK w0 XNone η w → b2 ≠ b3) (hN : dstOK N d = true)
    (h : ∀ rr : RowR, (rr = none → holdsF r gone = []) → XO Try.prog ro n N ds w0 XNone Q ops (putS d (valR rr (holdsF r gone).length) σ) (hpR 3 1 rr (holdsF r gone).length ((holdsF r gone).map (.int .i64)) ++ η) rest) :
    XO Try.prog ro n N ds w0 XNone Q ops σ η (⟨d, .call { callee := .value (.func 21), args := #[x], argTypes := ats }, ty, pos, aft, g⟩ :: rest) := by
  have hll : (holdsF r gone).length ≤ 1000000 := by
    have hle : ∀ (r : List RecT) (bs : List Int), (holdsL gone bs r).length ≤ r.length := by
      intro r
      induction r with
      | nil => intro bs; simp [holdsL]
      | cons x r ih =>
        intro bs
        unfold holdsL
        split
        · have := ih bs; simp; omega
        · have := ih (insN x.f0 bs); simp; omega
    exact Nat.le_trans (hle r []) hlen
  refine xo_call (xs := [x]) (vs := [.func (.func 47) #[] #[.pointer (some ⟨b2, 0, none⟩), .pointer (some ⟨b3, 0, none⟩)]]) (fs := []) (cs := []) hg rfl (by simp [evs, hx]) collect_enters hN (fun w4 hw4 => ?_)
  have k2 := hw4.obj h2
  have k3 := hw4.obj h3
  have hGi : IMap w4 G (setV gone) := hw4.imap hG
  have hit := iter_holds A c r gone M0 G b2 b3 w0 w4 hr (SameB.of_below hw4.kx.below) hw4.kx.size k2 k3 hGi (h23 w4 hw4)
  have hlt : ∀ k, needOf w0 b2 b3 G k → k < w4.heap.size := by
    have h5 := (Array.getElem?_eq_some_iff.1 k2).1
    have h6 := (Array.getElem?_eq_some_iff.1 k3).1
    have h7 := hGi.lt
    have h8 := hw4.kx.size
    rintro k (h | h | h | h) <;> omega
  refine (collect_calls _ [.pointer (some ⟨b2, 0, none⟩), .pointer (some ⟨b3, 0, none⟩)] iter_enters _ _ w4 hit hlt hll).mono ?_
  rintro e w5 ⟨rr, rfl, hrow, hb⟩
  exact ⟨_, _, rfl, hw4.row hb hrow, h rr hrow.1⟩
end
theorem ne_of_nd {η : Hp} {w0 : World} {X : Nat → Prop} {b3 b2 : Nat} {w1 w2 : Bool} {φ φ' : HP} {w : World} (h : WOK w0 X ((b3, w1, φ) :: (b2, w2, φ') :: η) w) : b2 ≠ b3 := by
  have := h.nd
  simp only [List.map_cons, List.nodup_cons, List.mem_cons, not_or] at this
  exact fun e => this.1.1 e.symm
end Go.Proofs.Ytcmepdamemnbkaa
