/- slices.Index, Contains, DeleteFunc over whole numbers. -/
import Derived.Test.YtcmepdamemnbkaaTIn
import Derived.Test.YtcmepdamemnbkaaTColl
namespace Go.Proofs.Ytcmepdamemnbkaa
open Go.RowKit Go.Proofs.YtcmepdamemnbkaaW.PrintWords
set_option linter.unusedVariables false
set_option linter.unusedSimpArgs false
theorem index_calls (A : Option Addr) (c : Nat) (zs : List Int) (v : Int) (w : World) (hr : Kd.C (Kd.int .i64) w A zs.length zs) :
    Calls Try.prog 50 #[.slice A zs.length c, .int .i64 v] w fun e w' => e = .returned (.int .i64 (idxF (fun x => decide (v = x)) zs 0)) ∧ Below w.heap.size w w' := by
  have hn := hr.2.1
  refine x_calls (X := XNone) Try.func50 rfl rfl rfl ?_
  with_reducible repeat refine xc_seq ?_
  with_reducible refine xc_region ?_
  refine xo_asg rfl rfl rfl ?_
  with_reducible refine xo_nil ?_
  with_reducible repeat (first | refine xq_then ?_ | refine xq_blockN ?_ | refine xq_scopeN ?_)
  with_reducible repeat refine xc_seq ?_
  with_reducible refine xc_region ?_
  refine xo_mv rfl rfl rfl ?_
  refine xo_len T_ rfl rfl rfl rfl ?_
  refine xo_mv rfl rfl rfl ?_
  with_reducible refine xo_nil ?_
  with_reducible repeat (first | refine xq_then ?_ | refine xq_blockN ?_ | refine xq_scopeN ?_)
  with_reducible repeat refine xc_seq ?_
  with_reducible refine xc_block ?_
  refine xc_loop (γ := Nat) (fun k => k ≤ zs.length ∧ ∀ j, j < k → decide (v = zs.getD j 0) = false) (fun k => [(0, .slice A zs.length c), (1, .int .i64 v), (6, .slice A zs.length c), (7, .int .i64 (zs.length : Int)), (8, .int .i64 (k : Int))]) (fun _ => []) (fun k => zs.length - k) 0
    ⟨Nat.zero_le _, fun j hj => absurd hj (Nat.not_lt_zero _)⟩ ⟨rfl, rfl, rfl, rfl, rfl, trivial⟩ (by repeat (first | exact List.Sublist.refl _ | apply List.Sublist.cons_cons | apply List.Sublist.cons | exact List.nil_sublist _)) ?_
  rintro k ⟨hk, hno⟩
  with_reducible repeat refine xc_seq ?_
  with_reducible refine xc_region ?_
  refine xo_lss rfl rfl rfl rfl ?_
  with_reducible refine xo_nil ?_
  with_reducible repeat (first | refine xq_then ?_ | refine xq_blockN ?_ | refine xq_scopeN ?_)
  with_reducible repeat refine xc_seq ?_
  refine xc_cond rfl (fun h => ?_) (fun h => ?_)
  · have hlt : k < zs.length := by have := of_decide_eq_true h; omega
    obtain ⟨ad, rfl, r1⟩ := int_at hr k hlt
    with_reducible refine xc_skip ?_
    with_reducible repeat (first | refine xq_then ?_ | refine xq_blockN ?_ | refine xq_scopeN ?_)
    with_reducible repeat refine xc_seq ?_
    with_reducible refine xc_block ?_
    with_reducible repeat refine xc_seq ?_
    with_reducible refine xc_region ?_
    refine xo_mv rfl rfl rfl ?_
    refine xo_asg rfl rfl rfl ?_
    with_reducible refine xo_nil ?_
    with_reducible repeat (first | refine xq_then ?_ | refine xq_blockN ?_ | refine xq_scopeN ?_)
    with_reducible repeat refine xc_seq ?_
    with_reducible refine xc_region ?_
    refine xo_mv rfl rfl rfl ?_
    refine xo_mv rfl rfl rfl ?_
    refine xo_mv rfl rfl rfl ?_
    refine xo_ia T_ rfl rfl rfl rfl rfl ⟨by omega, by omega⟩ rfl ?_
    refine xo_loadR0 T_ rfl rfl rfl (by assumption) rfl ?_
    refine xo_eql rfl rfl rfl rfl ?_
    with_reducible refine xo_nil ?_
    with_reducible repeat (first | refine xq_then ?_ | refine xq_blockN ?_ | refine xq_scopeN ?_)
    with_reducible repeat refine xc_seq ?_
    refine xc_cond rfl (fun h2 => ?_) (fun h2 => ?_)
    · with_reducible repeat refine xc_seq ?_
      with_reducible refine xc_region ?_
      refine xo_mv rfl rfl rfl ?_
      refine xo_asg rfl rfl rfl ?_
      with_reducible refine xo_nil ?_
      with_reducible repeat (first | refine xq_then ?_ | refine xq_blockN ?_ | refine xq_scopeN ?_)
      with_reducible repeat refine xc_seq ?_
      with_reducible refine xc_ret ?_
      with_reducible repeat (first | refine xq_thenR ?_ | refine xq_blockR ?_ | refine xq_scopeR ?_)
      exact xq_ret1 rfl rfl fun w' hw => ⟨by rw [idxF_hit (fun x => decide (v = x)) 0 zs k 0 hlt h2 hno]; simp, hw.kx.below⟩
    · with_reducible refine xc_skip ?_
      with_reducible repeat (first | refine xq_then ?_ | refine xq_blockN ?_ | refine xq_scopeN ?_)
      with_reducible repeat refine xc_seq ?_
      with_reducible refine xc_region ?_
      refine xo_add rfl rfl rfl (by omega) rfl ?_
      refine xo_mv rfl rfl rfl ?_
      with_reducible refine xo_nil ?_
      with_reducible repeat (first | refine xq_then ?_ | refine xq_blockN ?_ | refine xq_scopeN ?_)
      refine xq_again _ _ _ _ _ (k + 1) ⟨by omega, fun j hj => ?_⟩ (by omega) ⟨rfl, rfl, rfl, rfl, rfl, trivial⟩ (by repeat (first | exact List.Sublist.refl _ | apply List.Sublist.cons_cons | apply List.Sublist.cons | exact List.nil_sublist _))
      by_cases e : j = k
      · subst e; exact h2
      · exact hno j (by omega)
  · have hge : ¬ k < zs.length := by have := of_decide_eq_false h; omega
    with_reducible refine xc_exit ?_
    with_reducible repeat (first | refine xq_blockX ?_ | refine xq_thenE ?_ | refine xq_blockE rfl ?_ | refine xq_scopeE ?_)
    with_reducible repeat (first | refine xq_then ?_ | refine xq_blockN ?_ | refine xq_scopeN ?_)
    with_reducible repeat refine xc_seq ?_
    with_reducible refine xc_region ?_
    refine xo_asg rfl rfl rfl ?_
    with_reducible refine xo_nil ?_
    with_reducible repeat (first | refine xq_then ?_ | refine xq_blockN ?_ | refine xq_scopeN ?_)
    with_reducible repeat refine xc_seq ?_
    with_reducible refine xc_ret ?_
    with_reducible repeat (first | refine xq_thenR ?_ | refine xq_blockR ?_ | refine xq_scopeR ?_)
    refine xq_ret1 rfl rfl fun w' hw => ⟨?_, hw.kx.below⟩
    rw [idxF_miss (fun x => decide (v = x)) 0 zs 0 (fun j hj => hno j (by omega))]
theorem contains_calls (A : Option Addr) (c : Nat) (zs : List Int) (v : Int) (w : World) (hr : Kd.C (Kd.int .i64) w A zs.length zs) :
    Calls Try.prog 29 #[.slice A zs.length c, .int .i64 v] w fun e w' => e = .returned (.bool (decide (v ∈ zs))) ∧ Below w.heap.size w w' := by
  have e1 : decide (v ∈ zs) = decide (0 ≤ idxF (fun x => decide (v = x)) zs 0) := by
    rw [idxF_any, Bool.eq_iff_iff]
    simp [List.any_eq_true]
  rw [e1]
  have eg2 := enters_of Try.func50 (by kernel_rfl) rfl
  refine x_calls (X := XNone) Try.func29 rfl rfl rfl ?_
  with_reducible repeat refine xc_seq ?_
  with_reducible refine xc_region ?_
  refine xo_asg rfl rfl rfl ?_
  with_reducible refine xo_nil ?_
  with_reducible repeat (first | refine xq_then ?_ | refine xq_blockN ?_ | refine xq_scopeN ?_)
  with_reducible repeat refine xc_seq ?_
  with_reducible refine xc_region ?_
  refine xo_mv rfl rfl rfl ?_
  refine xo_mv rfl rfl rfl ?_
  refine xo_callB (fs := []) (cs := []) rfl rfl rfl eg2 rfl (fun w1 hw1 => index_calls A c zs v w1 (Kd.C_below hr hw1.kx.below)) ?_
  refine xo_geq rfl rfl rfl rfl ?_
  refine xo_asg rfl rfl rfl ?_
  with_reducible refine xo_nil ?_
  with_reducible repeat (first | refine xq_then ?_ | refine xq_blockN ?_ | refine xq_scopeN ?_)
  with_reducible repeat refine xc_seq ?_
  with_reducible refine xc_ret ?_
  with_reducible repeat (first | refine xq_thenR ?_ | refine xq_blockR ?_ | refine xq_scopeR ?_)
  exact (xq_ret1 rfl rfl fun w' hw => ⟨rfl, hw.kx.below⟩)
theorem contains_enters : ∀ args w, (callFunc 29 args).run Try.prog w = .ok (.enter 29 args) w := enters_of Try.func29 (by kernel_rfl) rfl
/-- a row of the call's own, as it is read -/
theorem C_orow {w : World} {b m cap : Nat} {xs : List Int} {t : TypeId} {o : Obj} (h1 : w.heap[b]? = some o) (h2 : orow t 1 m cap (xs.map (.int .i64)) o) (hl : xs.length = m) (hm : m ≤ 9223372036854775807) : Kd.C (Kd.int .i64) w (some ⟨b, 0, none⟩) m xs := by
  obtain ⟨cur, rfl, h5, h6, h7, h8⟩ := h2
  refine ⟨hl, hm, fun _ => ⟨_, rfl, fun j p hj => ⟨[.int .i64 p], rfl, rfl, fun i u hu => ?_⟩⟩⟩
  have hi : i = 0 := by
    have := (List.getElem?_eq_some_iff.1 hu).1
    simpa using this
  subst hi
  simp at hu
  subst hu
  rw [Addr.add_lit]
  have hjm : j < m := by rw [← hl]; exact (List.getElem?_eq_some_iff.1 hj).1
  have h9 : (xs.map (Value.int .i64))[j]? = some (.int .i64 p) := by simp [hj]
  rw [← h8, Nat.mul_one, List.getElem?_take, if_pos hjm] at h9
  simp only [Kd.int, Kd.scalar, Nat.zero_add, Nat.mul_one, Nat.add_zero]
  rw [cell_of_row w b j _ t _ h1, ← Array.getElem?_toList]
  exact h9
theorem RowAt.C {e : TypeId} {base : Nat} {w : World} {r : RowR} {xs : List Int} (h : RowAt e base w r xs) (hm : xs.length ≤ 9223372036854775807) : ∃ A c, valR r xs.length = .slice A xs.length c ∧ xs.length ≤ c ∧ Kd.C (Kd.int .i64) w A xs.length xs := by
  cases r with
  | none =>
    have := h.1 rfl
    subst this
    exact ⟨none, 0, rfl, Nat.le_refl _, Kd.C_nil _ _⟩
  | some p =>
    obtain ⟨h1, o, h2, h3⟩ := h.2 p rfl
    have h4 : xs.length ≤ p.2 := by obtain ⟨_, _, h5, _⟩ := h3; exact h5
    exact ⟨some ⟨p.1, 0, none⟩, p.2, rfl, h4, C_orow h2 h3 rfl hm⟩
/-- a closure that answers p in whatever world that is as w is but for the blocks of X -/
def AsksK (P : Program) (X : Nat → Prop) (w : World) (g : Nat) (cs : List Value) (p : Int → Bool) : Prop :=
  ∀ (x : Int) (W : World), Kx X w W → Calls P g ([Value.int .i64 x] ++ cs).toArray W fun e W' => e = .returned (.bool (p x)) ∧ Below W.heap.size W W'
theorem Kx.then_below {X : Nat → Prop} {w0 w w' : World} (h : Kx X w0 w) (hb : Below w.heap.size w w') : Kx X w0 w' := ⟨hb.os.trans h.os, hb.tape.trans h.tape, hb.output.trans h.output, Nat.le_trans h.size hb.size, fun k hk hx => (hb.block k (Nat.lt_of_lt_of_le hk h.size)).trans (h.block k hk hx)⟩
theorem filter_take_le {α : Type} (q : α → Bool) (xs : List α) (j : Nat) : ((xs.take j).filter q).length ≤ j := Nat.le_trans (List.length_filter_le _ _) (List.length_take_le _ _)
theorem idxF_neg {α : Type} (p : α → Bool) : ∀ (zs : List α) (i : Nat), idxF p zs i = -1 → ∀ x ∈ zs, p x = false
  | [], _, _, x, h => by cases h
  | y :: r, i, h, x, hx => by
    unfold idxF at h
    split at h
    · omega
    · rename_i hy
      rcases List.mem_cons.1 hx with rfl | hx
      · simpa using hy
      · exact idxF_neg p r (i + 1) h x hx
theorem idxF_pos {α : Type} (p : α → Bool) (z : α) : ∀ (zs : List α) (i : Nat), idxF p zs i ≠ -1 → ∃ k, idxF p zs i = ((i + k : Nat) : Int) ∧ k < zs.length ∧ p (zs.getD k z) = true ∧ (zs.take k).filter (fun x => !p x) = zs.take k
  | [], i, h => absurd rfl h
  | y :: r, i, h => by
    by_cases hy : p y = true
    · exact ⟨0, by simp [idxF, hy], by simp, by simpa using hy, by simp⟩
    · have e : idxF p (y :: r) i = idxF p r (i + 1) := by simp [idxF, hy]
      rw [e] at h ⊢
      obtain ⟨k, h1, h2, h3, h4⟩ := idxF_pos p z r (i + 1) h
      exact ⟨k + 1, by rw [h1]; omega, by simpa using h2, by simpa using h3, by simp [h4, hy]⟩
theorem take_succ_filter (q : Int → Bool) (xs : List Int) (j : Nat) (hj : j < xs.length) : (xs.take (j + 1)).filter q = (xs.take j).filter q ++ if q (xs.getD j 0) then [xs.getD j 0] else [] := by
  rw [List.take_succ_eq_append_getElem hj, List.filter_append]
  simp [List.getD_eq_getElem?_getD, List.getElem?_eq_getElem hj, List.filter_cons]
set_option maxHeartbeats 4000000 in
/-- slices.DeleteFunc, in place, on a row of the caller's own -/
theorem deleteFunc_calls (p : Int → Bool) (g : Nat) (cs : List Value) (eg : ∀ args w, (callFunc g args).run Try.prog w = .ok (.enter g args) w) (b cap : Nat) (xs : List Int) (w : World) (o : Obj) (h1 : w.heap[b]? = some o) (h2 : orow 3 1 xs.length cap (xs.map (.int .i64)) o) (hl : xs.length ≤ 1000000)
    (hp : AsksK Try.prog (fun k => k = b) w g cs p) :
    Calls Try.prog 27 #[.slice (some ⟨b, 0, none⟩) xs.length cap, .func (.func g) #[] cs.toArray] w fun e w' => e = .returned (.slice (some ⟨b, 0, none⟩) (xs.filter fun x => !p x).length cap) ∧ Kx (fun k => k = b) w w' ∧ ∃ o', w'.heap[b]? = some o' ∧ orow 3 1 (xs.filter fun x => !p x).length cap ((xs.filter fun x => !p x).map (.int .i64)) o' := by
  have eg2 := enters_of Try.func49 (by kernel_rfl) rfl
  have hw0 : WOK w (fun k => k = b) [(b, true, orow 3 1 xs.length cap (xs.map (.int .i64)))] w := by
    refine ⟨Kx.refl _ w, ?_, by simp, ?_⟩
    · intro e he
      simp only [List.mem_singleton] at he
      subst he
      exact ⟨o, h1, h2⟩
    · intro e he _
      simp only [List.mem_singleton] at he
      subst he
      exact .inr rfl
  have hcap : xs.length ≤ cap := by obtain ⟨_, _, h5, _⟩ := h2; exact h5
  refine x_callsH (X := fun k => k = b) Try.func27 rfl rfl rfl hw0 ?_
  with_reducible repeat refine xc_seq ?_
  with_reducible refine xc_region ?_
  refine xo_asg rfl rfl rfl ?_
  with_reducible refine xo_nil ?_
  with_reducible repeat (first | refine xq_then ?_ | refine xq_blockN ?_ | refine xq_scopeN ?_)
  with_reducible repeat refine xc_seq ?_
  with_reducible refine xc_region ?_
  refine xo_mv rfl rfl rfl ?_
  refine xo_mv rfl rfl rfl ?_
  refine xo_callB (fs := []) (cs := []) rfl rfl rfl eg2 rfl (fun w1 hw1 => indexFunc_calls p g cs eg _ cap xs w1 (by obtain ⟨o1, h3, h4⟩ := hw1.bl _ (List.Mem.head _); exact C_orow h3 h4 rfl (by omega)) (fun x W hW => hp x W (hw1.kx.then_below hW))) ?_
  refine xo_asg rfl rfl rfl ?_
  with_reducible refine xo_nil ?_
  with_reducible repeat (first | refine xq_then ?_ | refine xq_blockN ?_ | refine xq_scopeN ?_)
  cases hi : decide (idxF p xs 0 = -1)
  all_goals
    with_reducible repeat refine xc_seq ?_
    with_reducible refine xc_region ?_
    refine xo_mv rfl rfl rfl ?_
    refine xo_eql rfl rfl rfl rfl ?_
    refine xo_as (i := 12) rfl (congrArg Value.bool hi) ?_
    with_reducible refine xo_nil ?_
    with_reducible repeat (first | refine xq_then ?_ | refine xq_blockN ?_ | refine xq_scopeN ?_)
    with_reducible repeat refine xc_seq ?_
    first | refine xc_condT rfl ?_ | refine xc_condF rfl ?_
  rotate_left
  · have hall := idxF_neg p xs 0 (of_decide_eq_true hi)
    have hf : (xs.filter fun x => !p x) = xs := List.filter_eq_self.2 (fun x hx => by simp [hall x hx])
    with_reducible repeat refine xc_seq ?_
    with_reducible refine xc_region ?_
    refine xo_mv rfl rfl rfl ?_
    refine xo_asg rfl rfl rfl ?_
    with_reducible refine xo_nil ?_
    with_reducible repeat (first | refine xq_then ?_ | refine xq_blockN ?_ | refine xq_scopeN ?_)
    with_reducible repeat refine xc_seq ?_
    with_reducible refine xc_ret ?_
    with_reducible repeat (first | refine xq_thenR ?_ | refine xq_blockR ?_ | refine xq_scopeR ?_)
    refine xq_ret1 rfl rfl fun w' hw => ⟨by rw [hf], hw.kx, ?_⟩
    rw [hf]
    exact hw.bl _ (List.Mem.head _)
  obtain ⟨k0, hk0, hk1, hk2, hk3⟩ := idxF_pos p 0 xs 0 (of_decide_eq_false hi)
  rw [Nat.zero_add] at hk0
  rw [hk0]
  clear hi
  with_reducible refine xc_skip ?_
  with_reducible repeat (first | refine xq_then ?_ | refine xq_blockN ?_ | refine xq_scopeN ?_)
  with_reducible repeat refine xc_seq ?_
  with_reducible refine xc_region ?_
  refine xo_mv rfl rfl rfl ?_
  refine xo_add rfl rfl rfl (by omega) rfl ?_
  refine xo_asg rfl rfl rfl ?_
  with_reducible refine xo_nil ?_
  with_reducible repeat (first | refine xq_then ?_ | refine xq_blockN ?_ | refine xq_scopeN ?_)
  with_reducible repeat refine xc_seq ?_
  with_reducible refine xc_block ?_
  refine xc_loop (γ := Nat × List Int) (fun q => q.1 ≤ xs.length ∧ ((xs.take q.1).filter fun x => !p x).length < q.1 ∧ q.2.length = xs.length ∧ q.2.take ((xs.take q.1).filter fun x => !p x).length = (xs.take q.1).filter (fun x => !p x) ∧ q.2.drop q.1 = xs.drop q.1)
    (fun q => [(0, .slice (some ⟨b, 0, none⟩) xs.length cap), (1, .func (.func g) #[] cs.toArray), (5, .int .i64 (((xs.take q.1).filter fun x => !p x).length : Int)), (6, .int .i64 (q.1 : Int))]) (fun q => [(b, true, orow 3 1 xs.length cap (q.2.map (.int .i64)))]) (fun q => xs.length - q.1) (k0 + 1, xs) ?_ ?_ (by repeat (first | exact List.Sublist.refl _ | apply List.Sublist.cons_cons | apply List.Sublist.cons | exact List.nil_sublist _)) ?_
  · have hk2' : (!p (xs.getD k0 0)) = false := by rw [hk2]; rfl
    have e1 : (xs.take (k0 + 1)).filter (fun x => !p x) = xs.take k0 := by
      simp only [take_succ_filter (fun x => !p x) xs k0 hk1, hk3, hk2', Bool.false_eq_true, ↓reduceIte, List.append_nil]
    have e2 : (xs.take k0).length = k0 := by rw [List.length_take]; omega
    show k0 + 1 ≤ xs.length ∧ ((xs.take (k0 + 1)).filter fun x => !p x).length < k0 + 1 ∧ xs.length = xs.length ∧ xs.take ((xs.take (k0 + 1)).filter fun x => !p x).length = (xs.take (k0 + 1)).filter (fun x => !p x) ∧ xs.drop (k0 + 1) = xs.drop (k0 + 1)
    rw [e1, e2]
    exact ⟨hk1, by omega, rfl, rfl, rfl⟩
  · have hk2' : (!p (xs.getD k0 0)) = false := by rw [hk2]; rfl
    have e : ((xs.take (k0 + 1)).filter fun x => !p x).length = k0 := by
      simp only [take_succ_filter (fun x => !p x) xs k0 hk1, hk3, hk2', Bool.false_eq_true, ↓reduceIte, List.append_nil, List.length_take]
      omega
    show subS [(0, _), (1, _), (5, .int .i64 (((xs.take (k0 + 1)).filter fun x => !p x).length : Int)), (6, _)] _
    rw [e]
    exact ⟨rfl, rfl, rfl, rfl, trivial⟩
  rintro ⟨j, ys⟩ ⟨hj, hcnt, hyl, hyt, hyd⟩
  simp only at hj hcnt hyl hyt hyd ⊢
  with_reducible repeat refine xc_seq ?_
  with_reducible refine xc_region ?_
  refine xo_mv rfl rfl rfl ?_
  refine xo_mv rfl rfl rfl ?_
  refine xo_len T_ rfl rfl rfl rfl ?_
  refine xo_lss rfl rfl rfl rfl ?_
  with_reducible refine xo_nil ?_
  with_reducible repeat (first | refine xq_then ?_ | refine xq_blockN ?_ | refine xq_scopeN ?_)
  with_reducible repeat refine xc_seq ?_
  refine xc_cond rfl (fun h => ?_) (fun h => ?_)
  · have hjl : j < xs.length := by have := of_decide_eq_true h; omega
    have hyj : ys[j]? = some (xs.getD j 0) := by
      have := congrArg (fun l : List Int => l[0]?) hyd
      simp only [List.getElem?_drop, Nat.add_zero] at this
      rw [this]
      simp [List.getD_eq_getElem?_getD, List.getElem?_eq_getElem hjl]
    have hsf := take_succ_filter (fun x => !p x) xs j hjl
    have hyd2 : ys.drop (j + 1) = xs.drop (j + 1) := by
      have := congrArg (List.drop 1) hyd
      simpa [List.drop_drop, Nat.add_comm] using this
    generalize xs.getD j 0 = y at *
    generalize hc0 : ((xs.take j).filter fun x => !p x) = fl at *
    with_reducible refine xc_skip ?_
    with_reducible repeat (first | refine xq_then ?_ | refine xq_blockN ?_ | refine xq_scopeN ?_)
    with_reducible repeat refine xc_seq ?_
    with_reducible refine xc_block ?_
    with_reducible repeat refine xc_seq ?_
    with_reducible refine xc_region ?_
    refine xo_mv rfl rfl rfl ?_
    refine xo_mv rfl rfl rfl ?_
    refine xo_ia T_ rfl rfl rfl rfl rfl ⟨by omega, by omega⟩ rfl ?_
    refine xo_loadO (v := .int .i64 y) T_ rfl rfl rfl (by repeat (first | exact List.Mem.head _ | apply List.Mem.tail | apply List.mem_append_right)) (by simp [szN, hyj]) rfl ?_
    refine xo_asg rfl rfl rfl ?_
    with_reducible refine xo_nil ?_
    with_reducible repeat (first | refine xq_then ?_ | refine xq_blockN ?_ | refine xq_scopeN ?_)
    with_reducible repeat refine xc_seq ?_
    with_reducible refine xc_region ?_
    refine xo_mv rfl rfl rfl ?_
    refine xo_mv rfl rfl rfl ?_
    refine xo_callB (fs := []) rfl rfl rfl eg rfl (fun w1 hw1 => hp y w1 hw1.kx) ?_
    refine xo_notOp rfl rfl rfl ?_
    with_reducible refine xo_nil ?_
    with_reducible repeat (first | refine xq_then ?_ | refine xq_blockN ?_ | refine xq_scopeN ?_)
    with_reducible repeat refine xc_seq ?_
    refine xc_cond rfl (fun h2 => ?_) (fun h2 => ?_)
    · rw [if_pos h2] at hsf
      with_reducible repeat refine xc_seq ?_
      with_reducible refine xc_region ?_
      refine xo_mv rfl rfl rfl ?_
      refine xo_mv rfl rfl rfl ?_
      refine xo_mv rfl rfl rfl ?_
      refine xo_ia T_ rfl rfl rfl rfl rfl ⟨by omega, by omega⟩ rfl ?_
      refine xo_storeO T_ rfl rfl rfl rfl (by repeat (first | exact List.Mem.head _ | apply List.Mem.tail | apply List.mem_append_right)) rfl rfl (by simp [szN]; omega) (by repeat (first | exact Upd.head | apply Upd.tail | apply Upd.app)) rfl ?_
      with_reducible refine xo_nil ?_
      with_reducible repeat (first | refine xq_then ?_ | refine xq_blockN ?_ | refine xq_scopeN ?_)
      with_reducible repeat refine xc_seq ?_
      with_reducible refine xc_region ?_
      refine xo_mv rfl rfl rfl ?_
      refine xo_add rfl rfl rfl (by omega) rfl ?_
      refine xo_asg rfl rfl rfl ?_
      with_reducible refine xo_nil ?_
      with_reducible repeat (first | refine xq_then ?_ | refine xq_blockN ?_ | refine xq_scopeN ?_)
      with_reducible repeat refine xc_seq ?_
      with_reducible refine xc_region ?_
      refine xo_mv rfl rfl rfl ?_
      refine xo_add rfl rfl rfl (by omega) rfl ?_
      refine xo_asg rfl rfl rfl ?_
      with_reducible refine xo_nil ?_
      with_reducible repeat (first | refine xq_then ?_ | refine xq_blockN ?_ | refine xq_scopeN ?_)
      refine xq_again _ _ _ _ _ (j + 1, ys.set fl.length y) ?_ (by first | omega | (simp only; omega)) ?_ ?_
      · simp only [hsf, List.length_append, List.length_cons, List.length_nil, List.length_set]
        refine ⟨hjl, by omega, hyl, ?_, ?_⟩
        · rw [List.take_succ_eq_append_getElem (by simp; omega)]
          simp only [List.getElem_set_self, List.take_set_of_le (Nat.le_refl _), hyt, Nat.zero_add]
        · rw [List.drop_set_of_lt (by omega)]; exact hyd2
      · show subS [(0, _), (1, _), (5, .int .i64 (((xs.take (j + 1)).filter fun x => !p x).length : Int)), (6, _)] _
        rw [hsf, List.length_append]
        exact ⟨rfl, rfl, rfl, rfl, trivial⟩
      · have e3 : ((fl.length : Nat) : Int).toNat * szN 0 = fl.length := by simp [szN]
        simp only [List.map_set, e3]
        exact List.Sublist.refl _
    · have h2' : (!p y) = false := h2
      rw [h2'] at hsf
      simp only [Bool.false_eq_true, ↓reduceIte, List.append_nil] at hsf
      with_reducible refine xc_skip ?_
      with_reducible repeat (first | refine xq_then ?_ | refine xq_blockN ?_ | refine xq_scopeN ?_)
      with_reducible repeat refine xc_seq ?_
      with_reducible refine xc_region ?_
      refine xo_mv rfl rfl rfl ?_
      refine xo_add rfl rfl rfl (by omega) rfl ?_
      refine xo_asg rfl rfl rfl ?_
      with_reducible refine xo_nil ?_
      with_reducible repeat (first | refine xq_then ?_ | refine xq_blockN ?_ | refine xq_scopeN ?_)
      refine xq_again _ _ _ _ _ (j + 1, ys) ?_ (by first | omega | (simp only; omega)) ?_ (List.Sublist.refl _)
      · simp only [hsf]
        exact ⟨hjl, by omega, hyl, hyt, hyd2⟩
      · show subS [(0, _), (1, _), (5, .int .i64 (((xs.take (j + 1)).filter fun x => !p x).length : Int)), (6, _)] _
        rw [hsf]
        exact ⟨rfl, rfl, rfl, rfl, trivial⟩
  · have hge : j = xs.length := by have := of_decide_eq_false h; omega
    subst hge
    rw [List.take_length] at *
    have hfl : (xs.filter fun x => !p x).length ≤ xs.length := List.length_filter_le _ _
    with_reducible refine xc_exit ?_
    with_reducible repeat (first | refine xq_blockX ?_ | refine xq_thenE ?_ | refine xq_blockE rfl ?_ | refine xq_scopeE ?_)
    with_reducible repeat (first | refine xq_then ?_ | refine xq_blockN ?_ | refine xq_scopeN ?_)
    with_reducible repeat refine xc_seq ?_
    with_reducible refine xc_region ?_
    refine xo_mv rfl rfl rfl ?_
    refine xo_mv rfl rfl rfl ?_
    refine xo_sliceLo T_ rfl rfl rfl rfl rfl (by omega) (by omega) rfl ?_
    refine xo_clear (m := xs.length) (i := (xs.filter fun x => !p x).length) T_ rfl rfl rfl rfl rfl rfl (by omega) (by omega) (by repeat (first | exact List.Mem.head _ | apply List.Mem.tail | apply List.mem_append_right)) (by repeat (first | exact Upd.head | apply Upd.tail | apply Upd.app)) rfl ?_
    with_reducible refine xo_nil ?_
    with_reducible repeat (first | refine xq_then ?_ | refine xq_blockN ?_ | refine xq_scopeN ?_)
    with_reducible repeat refine xc_seq ?_
    with_reducible refine xc_region ?_
    refine xo_mv rfl rfl rfl ?_
    refine xo_mv rfl rfl rfl ?_
    refine xo_sliceHi T_ rfl rfl rfl rfl rfl (by omega) rfl ?_
    refine xo_asg rfl rfl rfl ?_
    with_reducible refine xo_nil ?_
    with_reducible repeat (first | refine xq_then ?_ | refine xq_blockN ?_ | refine xq_scopeN ?_)
    with_reducible repeat refine xc_seq ?_
    with_reducible refine xc_ret ?_
    with_reducible repeat (first | refine xq_thenR ?_ | refine xq_blockR ?_ | refine xq_scopeR ?_)
    refine xq_ret1 rfl rfl fun w' hw => ⟨rfl, hw.kx, ?_⟩
    obtain ⟨o', h5, h6⟩ := hw.bl _ (List.Mem.head _)
    refine ⟨o', h5, ?_⟩
    have : (ys.map (Value.int .i64)).take (xs.filter fun x => !p x).length = (xs.filter fun x => !p x).map (.int .i64) := by rw [← List.map_take, hyt]
    rw [← this]
    exact h6
end Go.Proofs.Ytcmepdamemnbkaa
