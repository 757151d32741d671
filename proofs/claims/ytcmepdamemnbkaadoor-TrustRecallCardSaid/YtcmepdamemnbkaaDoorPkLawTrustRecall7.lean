/- ref08.Moves answers what trust.count answers. / ref08.Hold: the walk. / ref08.Comes: which batches come of a record. / The library's own functions that the shelf's contract asks, where they lie in this program. / slices.AppendSeq, Collect over an iterator that yields one of several lists. / maps.Keys over a set of whole numbers: an iterator that yields its members in some order. / slices.Sort, slices.Sorted over a set's keys: the members in rising order. / The library's own functions that the shelf's contract asks, where they lie in this program. / slices.Sort of a nil row; slices.Sorted over a set's keys. / ref08.ids, Holds, open. / ref08.Holds, open. / ref08.Takes. / ref08: members, Carries, Ahead. / ref08.Twin: a copy of records, ways and all. / ref08: Ahead, Rests. / cmp.Compare, slices.Compare of rows that are equally long. / maps.Clone of a set: a copy. / ref08.Rests: the walk. / ref08.Causes. / The least list that is good: both searches find it. Plain Lean. / What records rest on, and causes: both searches go over the same good lists. Plain Lean. / trust.fewest: the search over a row's sets. / trust.fewest: the walk. -/
import Derived.Test.YtcmepdamemnbkaaDoorPkLawTrustRecall6
import Derived.Test.YtcmepdamemnbkaaDoorPkLawTrustRecall5
import Derived.Test.YtcmepdamemnbkaaDoorPkLawTrustRecall2
import Derived.Shelf.Sort.Plain
import Derived.Shelf.Lays
import Derived.Test.YtcmepdamemnbkaaDoorPkLawTrustRecall3
import Derived.Test.YtcmepdamemnbkaaDoorPkLawTrustRecall4
import Derived.Sort.OwnSortedInts
import Derived.Shelf.Small.Bits
import Derived.Shelf.SlMaps.Clone
namespace Go.Proofs.YtcmepdamemnbkaaDoor
open Go.RowKit Go.Proofs.YtcmepdamemnbkaaDoorW.PrintWords
set_option linter.unusedVariables false
set_option linter.unusedSimpArgs false
theorem split7 (c1 c2 c3 c4 c5 c6 c7 : Bool) : (c1 = true ∧ (c1 || (c2 && c3) || c4 || c5 || c6 || c7) = true) ∨ (c1 = false ∧ c2 = true ∧ c3 = true ∧ (c1 || (c2 && c3) || c4 || c5 || c6 || c7) = true) ∨ (c1 = false ∧ c2 = true ∧ c3 = false ∧ c4 = true ∧ (c1 || (c2 && c3) || c4 || c5 || c6 || c7) = true) ∨ (c1 = false ∧ c2 = true ∧ c3 = false ∧ c4 = false ∧ c5 = true ∧ (c1 || (c2 && c3) || c4 || c5 || c6 || c7) = true) ∨ (c1 = false ∧ c2 = true ∧ c3 = false ∧ c4 = false ∧ c5 = false ∧ c6 = true ∧ (c1 || (c2 && c3) || c4 || c5 || c6 || c7) = true) ∨ (c1 = false ∧ c2 = true ∧ c3 = false ∧ c4 = false ∧ c5 = false ∧ c6 = false ∧ c7 = true ∧ (c1 || (c2 && c3) || c4 || c5 || c6 || c7) = true) ∨ (c1 = false ∧ c2 = true ∧ c3 = false ∧ c4 = false ∧ c5 = false ∧ c6 = false ∧ c7 = false ∧ (c1 || (c2 && c3) || c4 || c5 || c6 || c7) = false) ∨ (c1 = false ∧ c2 = false ∧ c4 = true ∧ (c1 || (c2 && c3) || c4 || c5 || c6 || c7) = true) ∨ (c1 = false ∧ c2 = false ∧ c4 = false ∧ c5 = true ∧ (c1 || (c2 && c3) || c4 || c5 || c6 || c7) = true) ∨ (c1 = false ∧ c2 = false ∧ c4 = false ∧ c5 = false ∧ c6 = true ∧ (c1 || (c2 && c3) || c4 || c5 || c6 || c7) = true) ∨ (c1 = false ∧ c2 = false ∧ c4 = false ∧ c5 = false ∧ c6 = false ∧ c7 = true ∧ (c1 || (c2 && c3) || c4 || c5 || c6 || c7) = true) ∨ (c1 = false ∧ c2 = false ∧ c4 = false ∧ c5 = false ∧ c6 = false ∧ c7 = false ∧ (c1 || (c2 && c3) || c4 || c5 || c6 || c7) = false) := by
  cases c1 <;> cases c2 <;> cases c3 <;> cases c4 <;> cases c5 <;> cases c6 <;> cases c7 <;> simp
def pastM (m : List MovT) (k : Nat) : Int := if k = 0 then -1 else (m.getD (k - 1) zMov).f0
def kindAt (r : List RecT) (n : Int) : Int := (r.getD (atF r n).toNat zRec).f1
def badM (r : List RecT) (m : List MovT) (k : Nat) (x : MovT) : Bool := !inF 0 9999 x.f0 || (decide (0 < (k : Int)) && decide (x.f0 ≤ (m.getD (k - 1) zMov).f0)) || decide (atF r x.f1 < 0) || !decide (kindAt r x.f1 = 3) || !inF 1 5 x.f2 || !inF 1 100000 x.f3
theorem mov_at' {w : World} {ad : Addr} {l : List MovT} (h : Kd.C movK w (some ad) l.length l) (k : Nat) (hk : k < l.length) (h0 : 0 < (k : Int)) :
    RO w XNone (ad.add (((k : Int) - 1).toNat * szN 4)) (movV (l.getD (k - 1) zMov)) := by
  obtain ⟨ad2, e, h1⟩ := mov_at h (k - 1) (by omega)
  cases e
  rw [show ((k : Int) - 1).toNat = ((k - 1 : Nat) : Int).toNat by omega]
  exact h1
theorem batch_at_iff {r : List RecT} (hs : SortedIds r) (n : Int) : decide (n ∈ batchesF r) = (!decide (atF r n < 0) && decide (kindAt r n = 3)) := by
  rw [atF_neg, Bool.not_not]
  cases hk : knownF r n with
  | false =>
    rw [Bool.false_and, decide_eq_false_iff_not]
    intro h
    obtain ⟨i, h1, h2⟩ := batch_at (k := r.length) (by rw [List.take_of_length_le (Nat.le_refl _)]; exact h)
    have := knownF_iff.2 ⟨i, h2.1, h2.2⟩
    rw [hk] at this
    cases this
  | true =>
    obtain ⟨a, h1, h2, h3⟩ := atF_known hk
    rw [Bool.true_and, kindAt, h2, Int.toNat_natCast, ← batch_mem hs h1]
    rw [show (r.getD a zRec).f0 = n from h3]
theorem badM_step {r : List RecT} (hs : SortedIds r) {m : List MovT} {k : Nat} {x : MovT} (hk : k < 40) (h0 : ∀ i, i < k → 0 ≤ (m.getD i zMov).f0) :
    (decide (x.f1 ∈ batchesF r) && inF (pastM m k + 1) 9999 x.f0 && inF 1 5 x.f2 && inF 1 100000 x.f3 && !decide (40 ≤ (k : Int))) = !badM r m k x := by
  have h1 : inF (pastM m k + 1) 9999 x.f0 = (inF 0 9999 x.f0 && !(decide (0 < (k : Int)) && decide (x.f0 ≤ (m.getD (k - 1) zMov).f0))) := by
    by_cases hk : k = 0
    · subst hk; simp [inF, pastM]
    · have := h0 (k - 1) (by omega)
      have e0 : decide (0 < (k : Int)) = true := decide_eq_true (by omega)
      rw [pastM, if_neg hk, e0, Bool.true_and]
      exact inF_step _ _ this
  have h2 : decide (40 ≤ (k : Int)) = false := decide_eq_false (by omega)
  rw [h1, h2, badM, batch_at_iff hs]
  cases inF 0 9999 x.f0 <;> cases (decide (0 < (k : Int)) && decide (x.f0 ≤ (m.getD (k - 1) zMov).f0)) <;> cases decide (atF r x.f1 < 0) <;> cases decide (kindAt r x.f1 = 3) <;> cases inF 1 5 x.f2 <;> cases inF 1 100000 x.f3 <;> rfl
theorem storeF_none {m : List MovT} {id : Int} (h : ∀ x ∈ m, x.f1 ≠ id) : storeF m id = st0 := by
  unfold storeF
  have key : ∀ (m : List MovT) (s : StT), (∀ x ∈ m, x.f1 ≠ id) → m.foldl (fun s x => if x.f1 = id then stStep s x.f2 x.f3 else s) s = s := by
    intro m
    induction m with
    | nil => intro s _; rfl
    | cons x m ih =>
      intro s h
      rw [List.foldl_cons, if_neg (h x (List.mem_cons_self ..))]
      exact ih s fun y hy => h y (List.mem_cons_of_mem _ hy)
  exact key m st0 h
theorem all_ok {r : List RecT} {m : List MovT} (h : ∀ x ∈ m, x.f1 ∈ batchesF r) : (m.all fun x => okS (storeF m x.f1)) = (batchesF r).all fun id => okS (storeF m id) := by
  rw [Bool.eq_iff_iff, List.all_eq_true, List.all_eq_true]
  constructor
  · intro h1 id hid
    by_cases q : ∃ x ∈ m, x.f1 = id
    · obtain ⟨x, hx, rfl⟩ := q
      exact h1 x hx
    · rw [storeF_none (fun x hx e => q ⟨x, hx, e⟩)]
      rfl
  · intro h1 x hx
    exact h1 _ (h x hx)
theorem countF_long {r : List RecT} {m : List MovT} (h : 40 < m.length) : countF r m = false := by
  cases hm : movesL (batchesF r) (-1) 0 m with
  | false => rw [countF, hm]; rfl
  | true =>
    rcases movesL_len m _ _ hm with h1 | rfl
    · omega
    · simp at h
set_option maxHeartbeats 64000000 in
theorem moves_calls (A B : Option Addr) (c c' : Nat) (r : List RecT) (m : List MovT) (w : World) (hr : Kd.C recK w A r.length r) (hm : Kd.C movK w B m.length m) (hkm : BytesM m) (hs : SortedIds r) :
    Calls Tryd.prog 47 #[.slice A r.length c, .slice B m.length c'] w fun e w' => e = .returned (.bool (countF r m)) ∧ Below w.heap.size w w' := by
  have hn := hm.2.1
  refine x_calls (X := XNone) Tryd.func47 rfl rfl rfl ?_
  with_reducible repeat refine xc_seq ?_
  with_reducible refine xc_region ?_
  refine xo_asg rfl rfl rfl ?_
  with_reducible refine xo_nil ?_
  with_reducible repeat (first | refine xq_then ?_ | refine xq_blockN ?_ | refine xq_scopeN ?_)
  with_reducible repeat refine xc_seq ?_
  with_reducible refine xc_region ?_
  refine xo_mv rfl rfl rfl ?_
  refine xo_len T_ rfl rfl rfl rfl ?_
  refine xo_gtr rfl rfl rfl rfl ?_
  with_reducible refine xo_nil ?_
  with_reducible repeat (first | refine xq_then ?_ | refine xq_blockN ?_ | refine xq_scopeN ?_)
  with_reducible repeat refine xc_seq ?_
  refine xc_cond rfl (fun h40 => ?_) (fun h40 => ?_)
  · with_reducible repeat refine xc_seq ?_
    with_reducible refine xc_region ?_
    refine xo_asg rfl rfl rfl ?_
    with_reducible refine xo_nil ?_
    with_reducible repeat (first | refine xq_then ?_ | refine xq_blockN ?_ | refine xq_scopeN ?_)
    with_reducible repeat refine xc_seq ?_
    with_reducible refine xc_ret ?_
    with_reducible repeat (first | refine xq_thenR ?_ | refine xq_blockR ?_ | refine xq_scopeR ?_)
    have h40 := of_decide_eq_true h40
    exact xq_ret1 rfl rfl fun w' hw => ⟨by rw [countF_long (by omega)], hw.kx.below⟩
  have h40 := of_decide_eq_false h40
  with_reducible refine xc_skip ?_
  with_reducible repeat (first | refine xq_then ?_ | refine xq_blockN ?_ | refine xq_scopeN ?_)
  with_reducible repeat refine xc_seq ?_
  with_reducible refine xc_region ?_
  refine xo_asg rfl rfl rfl ?_
  with_reducible refine xo_nil ?_
  with_reducible repeat (first | refine xq_then ?_ | refine xq_blockN ?_ | refine xq_scopeN ?_)
  with_reducible repeat refine xc_seq ?_
  with_reducible refine xc_block ?_
  refine xc_loop (γ := Nat) (fun k => k ≤ m.length ∧ (∀ i, i < k → 0 ≤ (m.getD i zMov).f0) ∧ movesL (batchesF r) (-1) 0 m = movesL (batchesF r) (pastM m k) (k : Int) (m.drop k)) (fun k => [(0, .slice A r.length c), (1, .slice B m.length c'), (5, .int .i64 (k : Int))]) (fun _ => []) (fun k => m.length - k) 0
    ⟨Nat.zero_le _, fun j hj => absurd hj (by simp), rfl⟩ ⟨rfl, rfl, rfl, trivial⟩ (List.Sublist.refl _) ?_
  rintro k ⟨hk1, h0, hmv⟩
  with_reducible repeat refine xc_seq ?_
  with_reducible refine xc_region ?_
  refine xo_mv rfl rfl rfl ?_
  refine xo_mv rfl rfl rfl ?_
  refine xo_len T_ rfl rfl rfl rfl ?_
  refine xo_lss rfl rfl rfl rfl ?_
  with_reducible refine xo_nil ?_
  with_reducible repeat (first | refine xq_then ?_ | refine xq_blockN ?_ | refine xq_scopeN ?_)
  with_reducible repeat refine xc_seq ?_
  refine xc_cond rfl (fun h => ?_) (fun h => ?_)
  · have hlt : k < m.length := by have := of_decide_eq_true h; omega
    obtain ⟨ad, rfl, r1⟩ := mov_at hm k hlt
    have hby := hkm _ (getD_mem m zMov k hlt)
    have hprev : decide (0 < (k : Int)) = true → 0 < (k : Int) ∧ RO w XNone (ad.add (((k : Int) - 1).toNat * szN 4)) (movV (m.getD (k - 1) zMov)) := fun h => ⟨of_decide_eq_true h, mov_at' hm k hlt (of_decide_eq_true h)⟩
    rw [drop_at m zMov k hlt, movesL, badM_step hs (by omega) h0] at hmv
    have hp1 : pastM m (k + 1) = (m.getD k zMov).f0 := by simp [pastM]
    generalize hx : m.getD k zMov = x at *
    have hat : decide (atF r x.f1 < 0) = false → ∃ ad2 A2 c2, A = some ad2 ∧ (0 ≤ atF r x.f1 ∧ atF r x.f1 < (r.length : Int)) ∧ RO w XNone (ad2.add ((atF r x.f1).toNat * szN 3)) (recV (r.getD (atF r x.f1).toNat zRec) A2 c2) := fun h => by
      rw [atF_neg, Bool.not_eq_false'] at h
      obtain ⟨a, h1, h2, h3⟩ := atF_known h
      obtain ⟨ad2, A2, c2, e, h4, _⟩ := rec_at hr a h1
      refine ⟨ad2, A2, c2, e, by rw [h2]; omega, ?_⟩
      rw [h2, Int.toNat_natCast]
      exact h4
    with_reducible refine xc_skip ?_
    with_reducible repeat (first | refine xq_then ?_ | refine xq_blockN ?_ | refine xq_scopeN ?_)
    with_reducible repeat refine xc_seq ?_
    with_reducible refine xc_block ?_
    with_reducible repeat refine xc_seq ?_
    with_reducible refine xc_region ?_
    refine xo_mv rfl rfl rfl ?_
    refine xo_mv rfl rfl rfl ?_
    refine xo_mv rfl rfl rfl ?_
    refine xo_ia T_ rfl rfl rfl rfl rfl ⟨by omega, by omega⟩ rfl ?_
    refine xo_faR T_ rfl rfl rfl rfl rfl ?_
    refine xo_loadR0 T_ rfl rfl rfl (by first | assumption | exact RO.fld (by assumption) rfl) rfl ?_
    refine xo_callB (fs := []) (cs := []) rfl rfl rfl at_enters rfl (fun w1 hw1 => at_calls _ _ _ _ w1 (Kd.C_below hr hw1.kx.below)) ?_
    refine xo_asg rfl rfl rfl ?_
    with_reducible refine xo_nil ?_
    with_reducible repeat (first | refine xq_then ?_ | refine xq_blockN ?_ | refine xq_scopeN ?_)
    refine xc_cut (γ := Unit) (fun _ => True) (fun _ => [(0, .slice A r.length c), (1, .slice (some ad) m.length c'), (5, .int .i64 (k : Int)), (80, .bool (badM r m k x))]) (fun _ => []) ?_ (fun _ _ => ?_)
    · rcases split7 (!inF 0 9999 x.f0) (decide (0 < (k : Int))) (decide (x.f0 ≤ (m.getD (k - 1) zMov).f0)) (decide (atF r x.f1 < 0)) (!decide (kindAt r x.f1 = 3)) (!inF 1 5 x.f2) (!inF 1 100000 x.f3) with
        ⟨h1, hB⟩ | ⟨h1, h2, h3, hB⟩ | ⟨h1, h2, h3, h4, hB⟩ | ⟨h1, h2, h3, h4, h5, hB⟩ | ⟨h1, h2, h3, h4, h5, h6, hB⟩ | ⟨h1, h2, h3, h4, h5, h6, h7, hB⟩ | ⟨h1, h2, h3, h4, h5, h6, h7, hB⟩ | ⟨h1, h2, h4, hB⟩ | ⟨h1, h2, h4, h5, hB⟩ | ⟨h1, h2, h4, h5, h6, hB⟩ | ⟨h1, h2, h4, h5, h6, h7, hB⟩ | ⟨h1, h2, h4, h5, h6, h7, hB⟩
      all_goals
        try (have q := hprev h2; obtain ⟨h2', r2⟩ := q)
        try (have q := hat h4; obtain ⟨ad2, A2, c2, rfl, h4', r3⟩ := q)
        with_reducible repeat refine xc_seq ?_
        apply xc_drawN
        · exact T_.mixed
        · rfl
        · rfl
        · rfl
        · rfl
        · apply DrawOps.cons
          · intro τ
            refine xo_mv rfl rfl rfl ?_
            exact xo_fin rfl
          apply DrawOps.cons
          · intro τ
            refine xo_mv rfl rfl rfl ?_
            exact xo_fin rfl
          apply DrawOps.cons
          · intro τ
            refine xo_ia T_ rfl rfl rfl rfl rfl ⟨by omega, by omega⟩ rfl ?_
            exact xo_fin rfl
          apply DrawOps.cons
          · intro τ
            refine xo_faR T_ rfl rfl rfl rfl rfl ?_
            exact xo_fin rfl
          apply DrawOps.cons
          · intro τ
            refine xo_loadR0 T_ rfl rfl rfl (by first | assumption | exact RO.fld (by assumption) rfl) rfl ?_
            exact xo_fin rfl
          apply DrawOps.cons
          · intro τ
            refine xo_callB (fs := []) (cs := []) rfl rfl rfl within_enters rfl (fun w1 hw1 => within_calls _ _ _ w1) ?_
            exact xo_fin rfl
          apply DrawOps.cons
          · intro τ
            refine xo_notOp rfl rfl rfl ?_
            first
              | exact xo_fin (congrArg Value.bool h1)
              | exact xo_fin rfl
          apply DrawOps.cons
          · intro τ
            refine xo_mv rfl rfl rfl ?_
            exact xo_fin rfl
          apply DrawOps.cons
          · intro τ
            first
              | refine xo_not rfl rfl ?_
              | (refine xo_mv rfl rfl rfl ?_)
            exact xo_fin rfl
          apply DrawOps.cons
          · intro τ
            first
              | refine xo_not rfl rfl ?_
              | (refine xo_gtr rfl rfl rfl rfl ?_)
            first
              | exact xo_fin (congrArg Value.bool h2)
              | exact xo_fin rfl
          apply DrawOps.cons
          · intro τ
            first
              | refine xo_not rfl rfl ?_
              | (refine xo_mv rfl rfl rfl ?_)
            exact xo_fin rfl
          apply DrawOps.cons
          · intro τ
            first
              | refine xo_not rfl rfl ?_
              | (refine xo_mv rfl rfl rfl ?_)
            exact xo_fin rfl
          apply DrawOps.cons
          · intro τ
            first
              | refine xo_not rfl rfl ?_
              | (refine xo_mv rfl rfl rfl ?_)
            exact xo_fin rfl
          apply DrawOps.cons
          · intro τ
            first
              | refine xo_not rfl rfl ?_
              | (refine xo_ia T_ rfl rfl rfl rfl rfl ⟨by omega, by omega⟩ rfl ?_)
            exact xo_fin rfl
          apply DrawOps.cons
          · intro τ
            first
              | refine xo_not rfl rfl ?_
              | (refine xo_faR T_ rfl rfl rfl rfl rfl ?_)
            exact xo_fin rfl
          apply DrawOps.cons
          · intro τ
            first
              | refine xo_not rfl rfl ?_
              | (refine xo_loadR0 T_ rfl rfl rfl (by first | assumption | exact RO.fld (by assumption) rfl) rfl ?_)
            exact xo_fin rfl
          apply DrawOps.cons
          · intro τ
            first
              | refine xo_not rfl rfl ?_
              | (refine xo_mv rfl rfl rfl ?_)
            exact xo_fin rfl
          apply DrawOps.cons
          · intro τ
            first
              | refine xo_not rfl rfl ?_
              | (refine xo_mv rfl rfl rfl ?_)
            exact xo_fin rfl
          apply DrawOps.cons
          · intro τ
            first
              | refine xo_not rfl rfl ?_
              | (refine xo_sub rfl rfl rfl (by omega) rfl ?_)
            exact xo_fin rfl
          apply DrawOps.cons
          · intro τ
            first
              | refine xo_not rfl rfl ?_
              | (refine xo_ia T_ rfl rfl rfl rfl rfl ⟨by omega, by omega⟩ rfl ?_)
            exact xo_fin rfl
          apply DrawOps.cons
          · intro τ
            first
              | refine xo_not rfl rfl ?_
              | (refine xo_faR T_ rfl rfl rfl rfl rfl ?_)
            exact xo_fin rfl
          apply DrawOps.cons
          · intro τ
            first
              | refine xo_not rfl rfl ?_
              | (refine xo_loadR0 T_ rfl rfl rfl (by first | assumption | exact RO.fld (by assumption) rfl) rfl ?_)
            exact xo_fin rfl
          apply DrawOps.cons
          · intro τ
            first
              | refine xo_not rfl rfl ?_
              | (refine xo_leq rfl rfl rfl rfl ?_)
            first
              | exact xo_fin (congrArg Value.bool h3)
              | exact xo_fin rfl
          apply DrawOps.cons
          · intro τ
            first
              | refine xo_not rfl rfl ?_
              | (first | refine xo_pickT rfl rfl rfl rfl ?_ | refine xo_pickF rfl rfl rfl rfl ?_)
            exact xo_fin rfl
          apply DrawOps.cons
          · intro τ
            first | refine xo_pickT rfl rfl rfl rfl ?_ | refine xo_pickF rfl rfl rfl rfl ?_
            exact xo_fin rfl
          apply DrawOps.cons
          · intro τ
            refine xo_mv rfl rfl rfl ?_
            exact xo_fin rfl
          apply DrawOps.cons
          · intro τ
            first
              | refine xo_not rfl rfl ?_
              | (refine xo_mv rfl rfl rfl ?_)
            exact xo_fin rfl
          apply DrawOps.cons
          · intro τ
            first
              | refine xo_not rfl rfl ?_
              | (refine xo_lss rfl rfl rfl rfl ?_)
            first
              | exact xo_fin (congrArg Value.bool h4)
              | exact xo_fin rfl
          apply DrawOps.cons
          · intro τ
            first | refine xo_pickT rfl rfl rfl rfl ?_ | refine xo_pickF rfl rfl rfl rfl ?_
            exact xo_fin rfl
          apply DrawOps.cons
          · intro τ
            refine xo_mv rfl rfl rfl ?_
            exact xo_fin rfl
          apply DrawOps.cons
          · intro τ
            first
              | refine xo_not rfl rfl ?_
              | (refine xo_mv rfl rfl rfl ?_)
            exact xo_fin rfl
          apply DrawOps.cons
          · intro τ
            first
              | refine xo_not rfl rfl ?_
              | (refine xo_mv rfl rfl rfl ?_)
            exact xo_fin rfl
          apply DrawOps.cons
          · intro τ
            first
              | refine xo_not rfl rfl ?_
              | (refine xo_ia T_ rfl rfl rfl rfl rfl ⟨by omega, by omega⟩ rfl ?_)
            exact xo_fin rfl
          apply DrawOps.cons
          · intro τ
            first
              | refine xo_not rfl rfl ?_
              | (refine xo_faR T_ rfl rfl rfl rfl rfl ?_)
            exact xo_fin rfl
          apply DrawOps.cons
          · intro τ
            first
              | refine xo_not rfl rfl ?_
              | (refine xo_loadR0 T_ rfl rfl rfl (by first | assumption | exact RO.fld (by assumption) rfl) rfl ?_)
            exact xo_fin rfl
          apply DrawOps.cons
          · intro τ
            first
              | refine xo_not rfl rfl ?_
              | (refine xo_neq rfl rfl rfl rfl ?_)
            first
              | exact xo_fin (congrArg Value.bool h5)
              | exact xo_fin rfl
          apply DrawOps.cons
          · intro τ
            first | refine xo_pickT rfl rfl rfl rfl ?_ | refine xo_pickF rfl rfl rfl rfl ?_
            exact xo_fin rfl
          apply DrawOps.cons
          · intro τ
            refine xo_mv rfl rfl rfl ?_
            exact xo_fin rfl
          apply DrawOps.cons
          · intro τ
            first
              | refine xo_not rfl rfl ?_
              | (refine xo_mv rfl rfl rfl ?_)
            exact xo_fin rfl
          apply DrawOps.cons
          · intro τ
            first
              | refine xo_not rfl rfl ?_
              | (refine xo_mv rfl rfl rfl ?_)
            exact xo_fin rfl
          apply DrawOps.cons
          · intro τ
            first
              | refine xo_not rfl rfl ?_
              | (refine xo_ia T_ rfl rfl rfl rfl rfl ⟨by omega, by omega⟩ rfl ?_)
            exact xo_fin rfl
          apply DrawOps.cons
          · intro τ
            first
              | refine xo_not rfl rfl ?_
              | (refine xo_faR T_ rfl rfl rfl rfl rfl ?_)
            exact xo_fin rfl
          apply DrawOps.cons
          · intro τ
            first
              | refine xo_not rfl rfl ?_
              | (refine xo_loadR0 T_ rfl rfl rfl (by first | assumption | exact RO.fld (by assumption) rfl) rfl ?_)
            exact xo_fin rfl
          apply DrawOps.cons
          · intro τ
            first
              | refine xo_not rfl rfl ?_
              | (refine xo_conv T_ rfl rfl rfl rfl (IntWalk.i64_in _ ⟨by omega, by omega⟩) rfl ?_)
            exact xo_fin rfl
          apply DrawOps.cons
          · intro τ
            first
              | refine xo_not rfl rfl ?_
              | (refine xo_callB (fs := []) (cs := []) rfl rfl rfl within_enters rfl (fun w1 hw1 => within_calls _ _ _ w1) ?_)
            exact xo_fin rfl
          apply DrawOps.cons
          · intro τ
            first
              | refine xo_not rfl rfl ?_
              | (refine xo_notOp rfl rfl rfl ?_)
            first
              | exact xo_fin (congrArg Value.bool h6)
              | exact xo_fin rfl
          apply DrawOps.cons
          · intro τ
            first | refine xo_pickT rfl rfl rfl rfl ?_ | refine xo_pickF rfl rfl rfl rfl ?_
            exact xo_fin rfl
          apply DrawOps.cons
          · intro τ
            refine xo_mv rfl rfl rfl ?_
            exact xo_fin rfl
          apply DrawOps.cons
          · intro τ
            first
              | refine xo_not rfl rfl ?_
              | (refine xo_mv rfl rfl rfl ?_)
            exact xo_fin rfl
          apply DrawOps.cons
          · intro τ
            first
              | refine xo_not rfl rfl ?_
              | (refine xo_mv rfl rfl rfl ?_)
            exact xo_fin rfl
          apply DrawOps.cons
          · intro τ
            first
              | refine xo_not rfl rfl ?_
              | (refine xo_ia T_ rfl rfl rfl rfl rfl ⟨by omega, by omega⟩ rfl ?_)
            exact xo_fin rfl
          apply DrawOps.cons
          · intro τ
            first
              | refine xo_not rfl rfl ?_
              | (refine xo_faR T_ rfl rfl rfl rfl rfl ?_)
            exact xo_fin rfl
          apply DrawOps.cons
          · intro τ
            first
              | refine xo_not rfl rfl ?_
              | (refine xo_loadR0 T_ rfl rfl rfl (by first | assumption | exact RO.fld (by assumption) rfl) rfl ?_)
            exact xo_fin rfl
          apply DrawOps.cons
          · intro τ
            first
              | refine xo_not rfl rfl ?_
              | (refine xo_callB (fs := []) (cs := []) rfl rfl rfl within_enters rfl (fun w1 hw1 => within_calls _ _ _ w1) ?_)
            exact xo_fin rfl
          apply DrawOps.cons
          · intro τ
            first
              | refine xo_not rfl rfl ?_
              | (refine xo_notOp rfl rfl rfl ?_)
            first
              | exact xo_fin (congrArg Value.bool h7)
              | exact xo_fin rfl
          apply DrawOps.cons
          · intro τ
            first | refine xo_pickT rfl rfl rfl rfl ?_ | refine xo_pickF rfl rfl rfl rfl ?_
            exact xo_fin rfl
          exact DrawOps.nil
        · rfl
        with_reducible repeat (first | refine xq_then ?_ | refine xq_blockN ?_ | refine xq_scopeN ?_)
        exact xq_meet _ _ _ () trivial ⟨rfl, rfl, rfl, by rw [badM, hB]; rfl, trivial⟩ (by repeat (first | exact List.Sublist.refl _ | apply List.Sublist.cons_cons | apply List.Sublist.cons | exact List.nil_sublist _))
    with_reducible repeat refine xc_seq ?_
    refine xc_cond rfl (fun hb => ?_) (fun hb => ?_)
    · with_reducible repeat refine xc_seq ?_
      with_reducible refine xc_region ?_
      refine xo_asg rfl rfl rfl ?_
      with_reducible refine xo_nil ?_
      with_reducible repeat (first | refine xq_then ?_ | refine xq_blockN ?_ | refine xq_scopeN ?_)
      with_reducible repeat refine xc_seq ?_
      with_reducible refine xc_ret ?_
      with_reducible repeat (first | refine xq_thenR ?_ | refine xq_blockR ?_ | refine xq_scopeR ?_)
      rw [hb] at hmv
      exact xq_ret1 rfl rfl fun w' hw => ⟨by rw [countF, hmv]; rfl, hw.kx.below⟩
    rw [hb, Bool.not_false, Bool.true_and] at hmv
    with_reducible refine xc_skip ?_
    with_reducible repeat (first | refine xq_then ?_ | refine xq_blockN ?_ | refine xq_scopeN ?_)
    with_reducible repeat refine xc_seq ?_
    with_reducible refine xc_region ?_
    refine xo_mv rfl rfl rfl ?_
    refine xo_add rfl rfl rfl (by omega) rfl ?_
    refine xo_asg rfl rfl rfl ?_
    with_reducible refine xo_nil ?_
    with_reducible repeat (first | refine xq_then ?_ | refine xq_blockN ?_ | refine xq_scopeN ?_)
    refine xq_again _ _ _ _ _ (k + 1) ⟨hlt, fun i hi => ?_, by rw [hmv, hp1]; rfl⟩ (by omega) ⟨rfl, rfl, rfl, trivial⟩ (List.Sublist.refl _)
    by_cases e : i = k
    · subst e
      rw [hx]
      simp only [badM, Bool.or_eq_false_iff, Bool.not_eq_false', inF, Bool.and_eq_true, decide_eq_true_eq] at hb
      exact hb.1.1.1.1.1.1
    · exact h0 i (by omega)
  have hge : ¬ k < m.length := by have := of_decide_eq_false h; omega
  rw [List.drop_of_length_le (by omega), movesL] at hmv
  have hmem := movesL_mem m _ _ hmv
  have hok := all_ok (r := r) (m := m) fun x hx => (hmem x hx).1
  with_reducible refine xc_exit ?_
  with_reducible repeat (first | refine xq_blockX ?_ | refine xq_thenE ?_ | refine xq_blockE rfl ?_ | refine xq_scopeE ?_)
  with_reducible repeat (first | refine xq_then ?_ | refine xq_blockN ?_ | refine xq_scopeN ?_)
  with_reducible repeat refine xc_seq ?_
  with_reducible refine xc_region ?_
  refine xo_asg rfl rfl rfl ?_
  with_reducible refine xo_nil ?_
  with_reducible repeat (first | refine xq_then ?_ | refine xq_blockN ?_ | refine xq_scopeN ?_)
  with_reducible repeat refine xc_seq ?_
  with_reducible refine xc_block ?_
  refine xc_loop (γ := Nat) (fun k => k ≤ m.length ∧ ((m.take k).all fun x => okS (storeF m x.f1)) = true) (fun k => [(1, .slice B m.length c'), (7, .int .i64 (k : Int))]) (fun _ => []) (fun k => m.length - k) 0
    ⟨Nat.zero_le _, by simp⟩ ⟨rfl, rfl, trivial⟩ (List.nil_sublist _) ?_
  rintro k ⟨hk1, hall⟩
  with_reducible repeat refine xc_seq ?_
  with_reducible refine xc_region ?_
  refine xo_mv rfl rfl rfl ?_
  refine xo_mv rfl rfl rfl ?_
  refine xo_len T_ rfl rfl rfl rfl ?_
  refine xo_lss rfl rfl rfl rfl ?_
  with_reducible refine xo_nil ?_
  with_reducible repeat (first | refine xq_then ?_ | refine xq_blockN ?_ | refine xq_scopeN ?_)
  with_reducible repeat refine xc_seq ?_
  refine xc_cond rfl (fun h => ?_) (fun h => ?_)
  · have hlt : k < m.length := by have := of_decide_eq_true h; omega
    obtain ⟨ad, rfl, r1⟩ := mov_at hm k hlt
    have hxm := getD_mem m zMov k hlt
    have hta : ((m.take (k + 1)).all fun x => okS (storeF m x.f1)) = (((m.take k).all fun x => okS (storeF m x.f1)) && okS (storeF m (m.getD k zMov).f1)) := by
      rw [List.take_succ_eq_append_getElem hlt, List.all_append]
      simp [List.getD_eq_getElem?_getD, List.getElem?_eq_getElem hlt]
    generalize m.getD k zMov = x at *
    with_reducible refine xc_skip ?_
    with_reducible repeat (first | refine xq_then ?_ | refine xq_blockN ?_ | refine xq_scopeN ?_)
    with_reducible repeat refine xc_seq ?_
    with_reducible refine xc_block ?_
    with_reducible repeat refine xc_seq ?_
    with_reducible refine xc_region ?_
    refine xo_mv rfl rfl rfl ?_
    refine xo_mv rfl rfl rfl ?_
    refine xo_mv rfl rfl rfl ?_
    refine xo_ia T_ rfl rfl rfl rfl rfl ⟨by omega, by omega⟩ rfl ?_
    refine xo_faR T_ rfl rfl rfl rfl rfl ?_
    refine xo_loadR0 T_ rfl rfl rfl (by first | assumption | exact RO.fld (by assumption) rfl) rfl ?_
    refine xo_callB (fs := []) (cs := []) rfl rfl rfl store_enters rfl (fun w1 hw1 => store_calls _ _ m x.f1 w1 (Kd.C_below hm hw1.kx.below) (fun y hy => (hmem y hy).2.2) (by omega)) ?_
    refine xo_alloc T_ rfl rfl rfl rfl (fun b8 => ?_)
    refine xo_store T_ rfl rfl rfl rfl (by repeat (first | exact List.Mem.head _ | apply List.Mem.tail | apply List.mem_append_right)) rfl rfl rfl rfl (by repeat (first | exact Upd.head | apply Upd.tail | apply Upd.app)) rfl ?_
    with_reducible refine xo_nil ?_
    with_reducible repeat (first | refine xq_then ?_ | refine xq_blockN ?_ | refine xq_scopeN ?_)
    have hbad : okS (storeF m x.f1) = false → countF r m = false := fun h => by
      rw [countF, hmv, Bool.true_and, ← hok, List.all_eq_false]
      exact ⟨x, hxm, by rw [h]; simp⟩
    cases h5 : decide ((storeF m x.f1).d < (storeF m x.f1).b) <;> cases h6 : decide ((storeF m x.f1).l < 0)
    all_goals
      with_reducible repeat refine xc_seq ?_
      with_reducible refine xc_region ?_
      refine xo_fa T_ rfl rfl rfl rfl rfl ?_
      refine xo_load0 T_ rfl rfl rfl (by repeat (first | exact List.Mem.head _ | apply List.Mem.tail | apply List.mem_append_right)) rfl rfl ?_
      refine xo_fa T_ rfl rfl rfl rfl rfl ?_
      refine xo_load0 T_ rfl rfl rfl (by repeat (first | exact List.Mem.head _ | apply List.Mem.tail | apply List.mem_append_right)) rfl rfl ?_
      refine xo_gtr rfl rfl rfl rfl ?_
      refine xo_as (i := 98) rfl (congrArg Value.bool h5) ?_
      refine xo_mv rfl rfl rfl ?_
      first
        | refine xo_not rfl rfl ?_
        | (refine xo_fa T_ rfl rfl rfl rfl rfl ?_)
      first
        | refine xo_not rfl rfl ?_
        | (refine xo_load0 T_ rfl rfl rfl (by repeat (first | exact List.Mem.head _ | apply List.Mem.tail | apply List.mem_append_right)) rfl rfl ?_)
      first
        | refine xo_not rfl rfl ?_
        | (refine xo_lss rfl rfl rfl rfl ?_)
      first | refine xo_as (i := 102) rfl (congrArg Value.bool h6) ?_ | skip
      first | refine xo_pickT rfl rfl rfl rfl ?_ | refine xo_pickF rfl rfl rfl rfl ?_
      with_reducible refine xo_nil ?_
      with_reducible repeat (first | refine xq_then ?_ | refine xq_blockN ?_ | refine xq_scopeN ?_)
      with_reducible repeat refine xc_seq ?_
      first | refine xc_condT rfl ?_ | refine xc_condF rfl ?_
    rotate_left
    iterate 3
      · with_reducible repeat refine xc_seq ?_
        with_reducible refine xc_region ?_
        refine xo_asg rfl rfl rfl ?_
        with_reducible refine xo_nil ?_
        with_reducible repeat (first | refine xq_then ?_ | refine xq_blockN ?_ | refine xq_scopeN ?_)
        with_reducible repeat refine xc_seq ?_
        with_reducible refine xc_ret ?_
        with_reducible repeat (first | refine xq_thenR ?_ | refine xq_blockR ?_ | refine xq_scopeR ?_)
        exact xq_ret1 rfl rfl fun w' hw => ⟨by rw [hbad (by rw [okS, h5, h6]; rfl)], hw.kx.below⟩
    with_reducible refine xc_skip ?_
    with_reducible repeat (first | refine xq_then ?_ | refine xq_blockN ?_ | refine xq_scopeN ?_)
    with_reducible repeat refine xc_seq ?_
    with_reducible refine xc_region ?_
    refine xo_mv rfl rfl rfl ?_
    refine xo_add rfl rfl rfl (by omega) rfl ?_
    refine xo_asg rfl rfl rfl ?_
    with_reducible refine xo_nil ?_
    with_reducible repeat (first | refine xq_then ?_ | refine xq_blockN ?_ | refine xq_scopeN ?_)
    exact xq_again _ _ _ _ _ (k + 1) ⟨hlt, by rw [hta, hall, okS, h5, h6]; rfl⟩ (by omega) ⟨rfl, rfl, trivial⟩ (List.nil_sublist _)
  · have hge : ¬ k < m.length := by have := of_decide_eq_false h; omega
    rw [List.take_of_length_le (by omega), hok] at hall
    with_reducible refine xc_exit ?_
    with_reducible repeat (first | refine xq_blockX ?_ | refine xq_thenE ?_ | refine xq_blockE rfl ?_ | refine xq_scopeE ?_)
    with_reducible repeat (first | refine xq_then ?_ | refine xq_blockN ?_ | refine xq_scopeN ?_)
    with_reducible repeat refine xc_seq ?_
    with_reducible refine xc_region ?_
    refine xo_asg rfl rfl rfl ?_
    with_reducible refine xo_nil ?_
    with_reducible repeat (first | refine xq_then ?_ | refine xq_blockN ?_ | refine xq_scopeN ?_)
    with_reducible repeat refine xc_seq ?_
    with_reducible refine xc_ret ?_
    with_reducible repeat (first | refine xq_thenR ?_ | refine xq_blockR ?_ | refine xq_scopeR ?_)
    exact xq_ret1 rfl rfl fun w' hw => ⟨by rw [countF, hmv, hall]; rfl, hw.kx.below⟩
theorem moves_enters : ∀ args w, (callFunc 47 args).run Tryd.prog w = .ok (.enter 47 args) w := enters_of Tryd.func47 (by kernel_rfl) rfl
end Go.Proofs.YtcmepdamemnbkaaDoor
namespace Go.Proofs.YtcmepdamemnbkaaDoor
open Go.RowKit Go.Proofs.YtcmepdamemnbkaaDoorW.PrintWords
set_option linter.unusedVariables false
set_option linter.unusedSimpArgs false
end Go.Proofs.YtcmepdamemnbkaaDoor
namespace Go.Proofs.YtcmepdamemnbkaaDoor
open Go.RowKit Go.Proofs.YtcmepdamemnbkaaDoorW.PrintWords
set_option linter.unusedVariables false
set_option linter.unusedSimpArgs false
theorem recF_before : ∀ (r : List RecT) (bs : List Int) (last : Int) (k : Nat), recF bs last r = true → k < r.length → ∀ way ∈ (r.getD k zRec).f2, ∀ n ∈ way, n ∈ bs ∨ ∃ a, a < k ∧ idAt r a = n
  | [], _, _, _, _, hk, _, _, _, _ => absurd hk (by simp)
  | y :: r, bs, last, 0, h, _, way, hw, n, hn => by
    simp only [recF, Bool.and_eq_true] at h
    obtain ⟨_, h1, h2⟩ := h
    rw [waysF, List.all_eq_true] at h1
    have := h1 way hw
    simp only [Bool.and_eq_true] at this
    exact .inl (wayF_mem way _ this.1 n hn)
  | y :: r, bs, last, k + 1, h, hk, way, hw, n, hn => by
    simp only [recF, Bool.and_eq_true] at h
    obtain ⟨_, h1, h2⟩ := h
    rcases recF_before r _ _ k h2 (by simpa using hk) way (by simpa using hw) n hn with h3 | ⟨a, h3, h4⟩
    · rcases mem_insN.1 h3 with rfl | h3
      · exact .inr ⟨0, by omega, rfl⟩
      · exact .inl h3
    · exact .inr ⟨a + 1, by omega, by simpa [idAt] using h4⟩
theorem recorded_before {r : List RecT} (h : recordedF r = true) {k : Nat} (hk : k < r.length) {way : List Int} (hw : way ∈ (r.getD k zRec).f2) {n : Int} (hn : n ∈ way) : ∃ a, a < k ∧ a < r.length ∧ idAt r a = n := by
  simp only [recordedF, Bool.and_eq_true] at h
  rcases recF_before r _ _ k h.1 hk way hw n hn with h1 | ⟨a, h1, h2⟩
  · cases h1
  · exact ⟨a, h1, by omega, h2⟩
end Go.Proofs.YtcmepdamemnbkaaDoor
namespace Go.Proofs.YtcmepdamemnbkaaDoor
open Go.Shelf Go.RowKit
set_option maxRecDepth 100000
def ren189 : Ren := ⟨fun n => bif Nat.beq n 125 then 85 else bif Nat.beq n 128 then 96 else bif Nat.beq n 129 then 97 else bif Nat.beq n 189 then 72 else bif Nat.beq n 215 then 98 else bif Nat.beq n 216 then 93 else bif Nat.beq n 257 then 84 else bif Nat.beq n 294 then 87 else bif Nat.beq n 295 then 88 else bif Nat.beq n 296 then 89 else bif Nat.beq n 297 then 90 else bif Nat.beq n 298 then 91 else bif Nat.beq n 299 then 92 else bif Nat.beq n 300 then 94 else bif Nat.beq n 301 then 95 else bif Nat.beq n 328 then 99 else bif Nat.beq n 329 then 100 else bif Nat.beq n 330 then 101 else bif Nat.beq n 331 then 102 else bif Nat.beq n 332 then 103 else bif Nat.beq n 343 then 104 else n, fun n => bif Nat.beq n 0 then 0 else bif Nat.beq n 3 then 3 else bif Nat.beq n 4 then 4 else bif Nat.beq n 5 then 5 else bif Nat.beq n 9 then 9 else bif Nat.beq n 28 then 33 else bif Nat.beq n 46 then 126 else bif Nat.beq n 51 then 59 else bif Nat.beq n 53 then 138 else bif Nat.beq n 131 then 65 else bif Nat.beq n 182 then 129 else bif Nat.beq n 183 then 130 else bif Nat.beq n 218 then 139 else bif Nat.beq n 222 then 143 else bif Nat.beq n 228 then 145 else bif Nat.beq n 229 then 146 else n, fun n => n⟩
theorem lays189 : Lays.n189 Tryd.prog ren189 where
  mixed := T_.mixed
  f125 := by kernel_rfl
  f128 := by kernel_rfl
  f129 := by kernel_rfl
  f189 := by kernel_rfl
  f215 := by kernel_rfl
  f216 := by kernel_rfl
  f257 := by kernel_rfl
  f294 := by kernel_rfl
  f295 := by kernel_rfl
  f296 := by kernel_rfl
  f297 := by kernel_rfl
  f298 := by kernel_rfl
  f299 := by kernel_rfl
  f300 := by kernel_rfl
  f301 := by kernel_rfl
  f328 := by kernel_rfl
  f329 := by kernel_rfl
  f330 := by kernel_rfl
  f331 := by kernel_rfl
  f332 := by kernel_rfl
  f343 := by kernel_rfl
  t0 := by kernel_rfl
  a0 := fun w => by kernel_rfl
  z0 := fun w => by kernel_rfl
  v0 := fun w => by kernel_rfl
  t3 := by kernel_rfl
  a3 := fun w => by kernel_rfl
  z3 := fun w => by kernel_rfl
  v3 := fun w => by kernel_rfl
  t4 := by kernel_rfl
  a4 := fun w => by kernel_rfl
  z4 := fun w => by kernel_rfl
  v4 := fun w => by kernel_rfl
  t5 := by kernel_rfl
  a5 := fun w => by kernel_rfl
  z5 := fun w => by kernel_rfl
  v5 := fun w => by kernel_rfl
  t9 := by kernel_rfl
  a9 := fun w => by kernel_rfl
  z9 := fun w => by kernel_rfl
  v9 := fun w => by kernel_rfl
  t28 := by kernel_rfl
  a28 := fun w => by kernel_rfl
  z28 := fun w => by kernel_rfl
  v28 := fun w => by kernel_rfl
  t46 := by kernel_rfl
  a46 := fun w => by kernel_rfl
  z46 := fun w => by kernel_rfl
  v46 := fun w => by kernel_rfl
  t51 := by kernel_rfl
  a51 := fun w => by kernel_rfl
  z51 := fun w => by kernel_rfl
  v51 := fun w => by kernel_rfl
  t53 := by kernel_rfl
  a53 := fun w => by kernel_rfl
  z53 := fun w => by kernel_rfl
  v53 := fun w => by kernel_rfl
  t131 := by kernel_rfl
  a131 := fun w => by kernel_rfl
  z131 := fun w => by kernel_rfl
  v131 := fun w => by kernel_rfl
  t182 := by kernel_rfl
  a182 := fun w => by kernel_rfl
  z182 := fun w => by kernel_rfl
  v182 := fun w => by kernel_rfl
  t183 := by kernel_rfl
  a183 := fun w => by kernel_rfl
  z183 := fun w => by kernel_rfl
  v183 := fun w => by kernel_rfl
  t218 := by kernel_rfl
  a218 := fun w => by kernel_rfl
  z218 := fun w => by kernel_rfl
  v218 := fun w => by kernel_rfl
  t222 := by kernel_rfl
  a222 := fun w => by kernel_rfl
  z222 := fun w => by kernel_rfl
  v222 := fun w => by kernel_rfl
  t228 := by kernel_rfl
  a228 := fun w => by kernel_rfl
  z228 := fun w => by kernel_rfl
  v228 := fun w => by kernel_rfl
  t229 := by kernel_rfl
  a229 := fun w => by kernel_rfl
  z229 := fun w => by kernel_rfl
  v229 := fun w => by kernel_rfl
end Go.Proofs.YtcmepdamemnbkaaDoor
namespace Go.Proofs.YtcmepdamemnbkaaDoor
open Go.RowKit
set_option linter.unusedVariables false
set_option linter.unusedSimpArgs false
set_option maxHeartbeats 4000000 in
theorem appendSeqS_calls (g : Nat) (cs : List Value) (eg : ∀ args w, (callFunc g args).run Tryd.prog w = .ok (.enter g args) w) (need : Nat → Prop) (S : List Int → Prop) (M : Nat) (w : World) (hit : IterS Tryd.prog g cs w need S M) (hneed : ∀ k, need k → k < w.heap.size) (hlen : M ≤ 1000000) :
    Calls Tryd.prog 74 #[.slice none 0 0, .func (.func g) #[] cs.toArray] w fun e w' => ∃ (xs : List Int) (r : RowR), S xs ∧ e = .returned (valR r xs.length) ∧ RowAt 3 w.heap.size w' r xs ∧ Below w.heap.size w w' := by
  refine x_callsM 3 Tryd.func74 rfl rfl rfl (WOK.start XNone w) ?_
  with_reducible repeat refine xc_seq ?_
  with_reducible refine xc_region ?_
  refine xo_box rfl rfl rfl rfl (fun b2 => ?_)
  refine xo_asg rfl rfl rfl ?_
  with_reducible refine xo_nil ?_
  with_reducible repeat (first | refine xq_then ?_ | refine xq_blockN ?_ | refine xq_scopeN ?_)
  with_reducible repeat refine xc_seq ?_
  with_reducible refine xc_region ?_
  refine xo_mv rfl rfl rfl ?_
  with_reducible refine xo_nil ?_
  with_reducible repeat (first | refine xq_then ?_ | refine xq_blockN ?_ | refine xq_scopeN ?_)
  with_reducible repeat refine xc_seq ?_
  with_reducible refine xc_block ?_
  refine xc_know (φ := w.heap.size ≤ b2) (fun w1 hw1 => hw1.own (by repeat (first | exact List.Mem.head _ | apply List.Mem.tail | apply List.mem_append_right))) fun hb2 => ?_
  refine xc_rangeS (by omega) rfl eg rfl (fun k => k < w.heap.size) (fun w1 hw1 k hk => Nat.lt_of_lt_of_le hk hw1.kx.size) (fun w1 hw1 => hit w1 hw1.kx.size (fun k hk => hw1.kx.below.block k (hneed k hk)) _ hneed _)
    (γ := RowR) (fun ys r => (r = none → ys = []) ∧ ∀ p, r = some p → w.heap.size ≤ p.1) (fun ys r => hpR 3 1 r ys.length (ys.map (.int .i64)) ++ [(b2, true, cel [valR r ys.length] 33)]) none ⟨fun _ => rfl, fun p h => by cases h⟩ (List.Sublist.refl _) ?_ ?_ (fun x => [(2, .pointer (some ⟨b2, 0, none⟩)), (5, .int .i64 x)]) ?_ ?_ ?_
  · intro ys r hC e he
    left
    intro o ho
    rcases List.mem_append.1 he with he | he
    · cases r with
      | none => cases he
      | some p =>
        simp only [hpR, List.mem_singleton] at he
        subst he
        obtain ⟨cur, rfl, _⟩ := ho
        rfl
    · simp only [List.mem_singleton] at he
      subst he
      rw [show o = _ from ho]
      rfl
  · rintro ys r ⟨_, hC⟩ e he _
    rcases List.mem_append.1 he with he | he
    · cases r with
      | none => cases he
      | some p =>
        simp only [hpR, List.mem_singleton] at he
        subst he
        exact Nat.not_lt.2 (hC p rfl)
    · simp only [List.mem_singleton] at he
      subst he
      exact Nat.not_lt.2 hb2
  · intro l x W
    with_reducible repeat refine xc_seq ?_
    with_reducible refine xc_region ?_
    refine xo_asg rfl rfl rfl ?_
    with_reducible refine xo_nil ?_
    with_reducible repeat (first | refine xq_then ?_ | refine xq_blockN ?_ | refine xq_scopeN ?_)
    exact fun a w1 ha hw1 => ⟨ha.sub ⟨rfl, rfl, trivial⟩, hw1.kx⟩
  · rintro l ys x r W ⟨hC1, hC2⟩ hlt hW
    with_reducible repeat refine xc_seq ?_
    with_reducible refine xc_block ?_
    with_reducible repeat refine xc_seq ?_
    with_reducible refine xc_region ?_
    refine xo_load0 T_ rfl rfl rfl (by repeat (first | exact List.Mem.head _ | apply List.Mem.tail | apply List.mem_append_right)) rfl rfl ?_
    refine xo_mv rfl rfl rfl ?_
    refine xo_bs1 T_ rfl rfl rfl rfl rfl rfl rfl rfl (fun b10 => ?_)
    refine xo_app TR_ rfl rfl rfl rfl rfl rfl rfl rfl (by simp) rfl rfl (fun h => by rw [hC1 h]; rfl) (by omega) rfl rfl (fun r' hr' => ?_)
    rcases r' with _ | ⟨g', cap'⟩
    · exact absurd rfl hr'
    refine xo_store T_ rfl rfl rfl rfl (by repeat (first | exact List.Mem.head _ | apply List.Mem.tail | apply List.mem_append_right)) rfl rfl rfl rfl (by repeat (first | exact Upd.head | apply Upd.tail | apply Upd.app)) rfl ?_
    with_reducible refine xo_nil ?_
    with_reducible repeat (first | refine xq_then ?_ | refine xq_blockN ?_ | refine xq_scopeN ?_)
    intro a w1 ha hw1
    refine ⟨some (g', cap'), ⟨(fun h => by cases h), fun p hp => ?_⟩, ?_⟩
    · cases hp
      rcases hw1.ow (g', true, _) (by repeat (first | exact List.Mem.head _ | apply List.Mem.tail | apply List.mem_append_right)) rfl with h1 | ⟨e, he, _, rfl⟩
      · exact Nat.le_trans hW.kx.size h1
      · rcases List.mem_append.1 he with he | he
        · cases r with
          | none => cases he
          | some p =>
            simp only [hpR, List.mem_singleton] at he
            subst he
            exact hC2 p rfl
        · simp only [List.mem_singleton] at he
          subst he
          exact hb2
    · have e1 : (ys ++ [x]).length = ys.length + 1 := by simp
      have e2 : (ys ++ [x]).map (Value.int .i64) = ys.map (Value.int .i64) ++ [Value.int .i64 x] := by simp
      show WOK W _ (hpR 3 1 (some (g', cap')) (ys ++ [x]).length ((ys ++ [x]).map (.int .i64)) ++ [(b2, true, cel [valR (some (g', cap')) (ys ++ [x]).length] 33)]) w1
      rw [e1, e2]
      exact hw1
  · rintro D xs r hS ⟨hC1, hC2⟩
    with_reducible repeat (first | refine xq_then ?_ | refine xq_blockN ?_ | refine xq_scopeN ?_)
    with_reducible repeat refine xc_seq ?_
    with_reducible refine xc_region ?_
    refine xo_load0 T_ rfl rfl rfl (by repeat (first | exact List.Mem.head _ | apply List.Mem.tail | apply List.mem_append_right)) rfl rfl ?_
    refine xo_asg rfl rfl rfl ?_
    with_reducible refine xo_nil ?_
    with_reducible repeat (first | refine xq_then ?_ | refine xq_blockN ?_ | refine xq_scopeN ?_)
    with_reducible repeat refine xc_seq ?_
    with_reducible refine xc_ret ?_
    with_reducible repeat (first | refine xq_thenR ?_ | refine xq_blockR ?_ | refine xq_scopeR ?_)
    refine xq_retM1 rfl rfl fun w1 hw1 => ⟨xs, r, hS, rfl, ⟨hC1, fun p hp => ⟨hC2 p hp, ?_⟩⟩, hw1.kx.below⟩
    subst hp
    exact hw1.bl (p.1, true, orow 3 1 xs.length p.2 (xs.map (.int .i64))) (List.Mem.head _)
theorem collectS_calls (g : Nat) (cs : List Value) (eg : ∀ args w, (callFunc g args).run Tryd.prog w = .ok (.enter g args) w) (need : Nat → Prop) (S : List Int → Prop) (M : Nat) (w : World) (hit : IterS Tryd.prog g cs w need S M) (hneed : ∀ k, need k → k < w.heap.size) (hlen : M ≤ 1000000) :
    Calls Tryd.prog 56 #[.func (.func g) #[] cs.toArray] w fun e w' => ∃ (xs : List Int) (r : RowR), S xs ∧ e = .returned (valR r xs.length) ∧ RowAt 3 w.heap.size w' r xs ∧ Below w.heap.size w w' := by
  have eg2 := enters_of Tryd.func74 (by kernel_rfl) rfl
  refine x_calls (X := XNone) Tryd.func56 rfl rfl rfl ?_
  with_reducible repeat refine xc_seq ?_
  with_reducible refine xc_region ?_
  refine xo_asg rfl rfl rfl ?_
  with_reducible refine xo_nil ?_
  with_reducible repeat (first | refine xq_then ?_ | refine xq_blockN ?_ | refine xq_scopeN ?_)
  with_reducible repeat refine xc_seq ?_
  with_reducible refine xc_region ?_
  refine xo_mv rfl rfl rfl ?_
  refine xo_call (fs := []) (cs := []) rfl rfl rfl eg2 rfl (fun w1 hw1 => (appendSeqS_calls g cs eg need S M w1 (fun w2 h1 h2 => hit w2 (Nat.le_trans hw1.kx.size h1) (fun k hk => (h2 k hk).trans (hw1.kx.below.block k (hneed k hk)))) (fun k hk => Nat.lt_of_lt_of_le (hneed k hk) hw1.kx.size) hlen).mono ?_)
  rintro e w2 ⟨xs, r, hS, rfl, hrow, hb⟩
  refine ⟨_, _, rfl, hw1.row hb hrow, ?_⟩
  refine xo_asg rfl rfl rfl ?_
  with_reducible refine xo_nil ?_
  with_reducible repeat (first | refine xq_then ?_ | refine xq_blockN ?_ | refine xq_scopeN ?_)
  with_reducible repeat refine xc_seq ?_
  with_reducible refine xc_ret ?_
  with_reducible repeat (first | refine xq_thenR ?_ | refine xq_blockR ?_ | refine xq_scopeR ?_)
  exact xq_ret1 rfl rfl fun w3 hw3 => ⟨xs, r, hS, rfl, RowAt.of hw3 hrow.1, hw3.kx.below⟩
end Go.Proofs.YtcmepdamemnbkaaDoor
namespace Go.Proofs.YtcmepdamemnbkaaDoor
open Go.RowKit
set_option linter.unusedVariables false
set_option linter.unusedSimpArgs false
theorem keys_uniq {es : Array MapEntry} {c : Nat} {l : List (Int × Value)} (hE : Ents es c l) {e e' : MapEntry} (he : e ∈ es.toList) (he' : e' ∈ es.toList) (h : e.key = e'.key) : e.born = e'.born := by
  have h1 : (es.toList.map (·.key)) = l.map (fun p => Value.int .i64 p.1) := by
    have := congrArg (List.map Prod.fst) hE.is
    simpa [List.map_map, Function.comp_def, kvE, kvI] using this
  have h2 : (es.toList.map (·.key)).Nodup := by
    rw [h1, show (fun p : Int × Value => Value.int .i64 p.1) = (fun n => Value.int .i64 n) ∘ Prod.fst from rfl, ← List.map_map]
    refine List.Pairwise.map _ ?_ hE.keys
    intro a b hab q
    injection q with _ q
    exact hab q
  obtain ⟨i, hi, rfl⟩ := List.getElem_of_mem he
  obtain ⟨j, hj, rfl⟩ := List.getElem_of_mem he'
  by_cases e : i = j
  · subst e; rfl
  · exfalso
    rw [List.nodup_iff_pairwise_ne, List.pairwise_iff_getElem] at h2
    by_cases hij : i < j
    · exact h2 i j (by simpa using hi) (by simpa using hj) hij (by simpa using h)
    · exact h2 j i (by simpa using hj) (by simpa using hi) (by omega) (by simpa using h.symm)
theorem keys_nodup {es : Array MapEntry} {c : Nat} {s : List Int} (hE : Ents es c (setV s)) : s.Nodup := by
  have h := hE.keys
  simpa [setV, List.map_map, Function.comp_def] using h
/-- what has been yielded: the keys of the entries that were seen -/
def Seen (es : Array MapEntry) (seen : Array Nat) (ys : List Int) : Prop := ys.Nodup ∧ ∀ n, n ∈ ys ↔ ∃ e ∈ es.toList, seen.contains e.born = true ∧ e.key = .int .i64 n
theorem Seen.step {es : Array MapEntry} {c : Nat} {s : List Int} (hE : Ents es c (setV s)) {seen : Array Nat} {ys : List Int} (h : Seen es seen ys) {e : MapEntry} (he : e ∈ es.toList) (hns : seen.contains e.born = false) {k : Int} (hk : e.key = .int .i64 k) : Seen es (seen.push e.born) (ys ++ [k]) := by
  obtain ⟨h1, h2⟩ := h
  refine ⟨List.nodup_append.2 ⟨h1, by simp, fun a ha b hb q => ?_⟩, fun n => ?_⟩
  · simp at hb
    subst hb
    subst q
    obtain ⟨e', he', h3, h4⟩ := (h2 a).1 ha
    rw [keys_uniq hE he' he (h4.trans hk.symm)] at h3
    rw [h3] at hns
    cases hns
  · rw [List.mem_append, List.mem_singleton, h2]
    constructor
    · rintro (⟨e', he', h3, h4⟩ | rfl)
      · exact ⟨e', he', by simp at h3 ⊢; exact .inl h3, h4⟩
      · exact ⟨e, he, by simp, hk⟩
    · rintro ⟨e', he', h3, h4⟩
      simp at h3
      rcases h3 with h3 | h3
      · exact .inl ⟨e', he', by simpa using h3, h4⟩
      · right
        obtain ⟨i, hi, rfl⟩ := List.getElem_of_mem he
        obtain ⟨j, hj, rfl⟩ := List.getElem_of_mem he'
        have hij : i = j := by
          have ho := hE.once
          by_cases q : i = j
          · exact q
          · exfalso
            rw [List.nodup_iff_pairwise_ne, List.pairwise_iff_getElem] at ho
            by_cases hl : i < j
            · exact ho i j (by simpa using hi) (by simpa using hj) hl (by simpa using h3.symm)
            · exact ho j i (by simpa using hj) (by simpa using hi) (by omega) (by simpa using h3)
        subst hij
        rw [hk] at h4
        injection h4 with _ h4
        exact h4.symm
theorem Seen.sub {es : Array MapEntry} {c : Nat} {s : List Int} (hE : Ents es c (setV s)) {seen : Array Nat} {ys : List Int} (h : Seen es seen ys) : ∀ n ∈ ys, n ∈ s := fun n hn => by
  obtain ⟨e, he, _, h4⟩ := (h.2 n).1 hn
  obtain ⟨k, hk, h5, _⟩ := hE.setV he
  rw [h5] at h4
  injection h4 with _ h4
  rwa [← h4]
theorem Seen.len {es : Array MapEntry} {c : Nat} {s : List Int} (hE : Ents es c (setV s)) {seen : Array Nat} {ys : List Int} (h : Seen es seen ys) : ys.length ≤ s.length := by
  have hp : (s.filter fun n => decide (n ∈ ys)).Perm ys := (List.perm_ext_iff_of_nodup ((keys_nodup hE).filter _) h.1).2 fun n => by
    simp only [List.mem_filter, decide_eq_true_eq]
    exact ⟨fun q => q.2, fun q => ⟨h.sub hE n q, q⟩⟩
  rw [← hp.length_eq]
  exact List.length_filter_le _ _
theorem Seen.all {es : Array MapEntry} {c : Nat} {s : List Int} (hE : Ents es c (setV s)) {seen : Array Nat} {ys : List Int} (h : Seen es seen ys) (hall : ∀ e ∈ es.toList, seen.contains e.born = true) : ys.Perm s :=
  (List.perm_ext_iff_of_nodup h.1 (keys_nodup hE)).2 fun n => ⟨h.sub hE n, fun hn => by
    have : (Value.int .i64 n, Value.bool true) ∈ es.toList.map kvE := by
      rw [hE.is, Go.Proofs.YtcmepdamemnbkaaDoor.setV, List.map_map]
      exact List.mem_map.2 ⟨n, hn, rfl⟩
    obtain ⟨e, he, q⟩ := List.mem_map.1 this
    exact (h.2 n).2 ⟨e, he, hall e he, congrArg Prod.fst q⟩⟩
theorem keysIter_enters : ∀ args w, (callFunc 78 args).run Tryd.prog w = .ok (.enter 78 args) w := enters_of Tryd.func78 (by kernel_rfl) rfl
set_option maxHeartbeats 4000000 in
theorem iter_keys (s : List Int) (M0 B : Nat) (wB : World) (hB : wB.heap[B]? = some (.cells #[.map (some M0)] 62 (0, 0))) (hM : IMap wB M0 (setV s)) :
    IterS Tryd.prog 78 [.pointer (some ⟨B, 0, none⟩)] wB (fun k => k = B ∨ k = M0) (fun ys => ys.Perm s) s.length := by
  intro w hszB hneed K hK m l J Jx W hW hJ hJx hY h0
  have ltB : B < wB.heap.size := (Array.getElem?_eq_some_iff.1 hB).1
  have ltM := hM.lt
  have gB : W.heap[B]? = _ := (hW.block B (by omega)).trans ((hneed B (.inl rfl)).trans hB)
  have gM : IMap W M0 (setV s) := hM.at_ ((hW.block M0 (by omega)).trans (hneed M0 (.inr rfl)))
  have nBM : B ≠ M0 := fun e => by obtain ⟨es, cl, h, _⟩ := gM; rw [← e, gB] at h; cases h
  have hszW := hW.size
  have hw0 : WOK W XNone [(B, false, cel [.map (some M0)] 62), (M0, false, hmap (setV s))] W := by
    refine ⟨Kx.refl _ W, ?_, by simp [nBM], by simp⟩
    intro e he
    simp only [List.mem_cons, List.not_mem_nil, or_false] at he
    rcases he with rfl | rfl
    · exact ⟨_, gB, rfl⟩
    · exact hmap_of gM
  refine x_iter Tryd.func78 rfl rfl rfl hw0 ?_
  with_reducible repeat refine xc_seq ?_
  with_reducible refine xc_region ?_
  refine xo_load0 T_ rfl rfl rfl (by repeat (first | exact List.Mem.head _ | apply List.Mem.tail | apply List.mem_append_right)) rfl rfl ?_
  refine xo_rangeM T_ rfl rfl rfl (by repeat (first | exact List.Mem.head _ | apply List.Mem.tail | apply List.mem_append_right)) (fun es c => Rep.tail Rep.head) rfl (fun r5 es c hE => ?_)
  with_reducible refine xo_nil ?_
  with_reducible repeat (first | refine xq_then ?_ | refine xq_blockN ?_ | refine xq_scopeN ?_)
  with_reducible repeat refine xc_seq ?_
  with_reducible refine xc_block ?_
  refine xc_loopJ (γ := Array Nat × List Int) (fun q => Seen es q.1 q.2) (fun q => [(0, .func (.yield l) #[] #[]), (5, .pointer (some ⟨r5, 0, none⟩))])
    (fun q => [(r5, true, hiter M0 c q.1), (B, false, cel [.map (some M0)] 62), (M0, false, hmapE es c)]) (fun q w => J q.2 w ∧ W.heap.size ≤ r5 ∧ W.heap.size ≤ w.heap.size) (fun q => s.length - q.2.length) (#[], []) ⟨List.nodup_nil, fun n => by simp⟩ ⟨rfl, rfl, trivial⟩
    (fun w1 hw1 => ⟨hw1.bok (by repeat (first | exact List.Sublist.refl _ | apply List.Sublist.cons_cons | apply List.Sublist.cons | exact List.nil_sublist _)), hJ _ _ _ none h0 (hw1.kx.grown (fun k q => q.elim)) (fun r e => by cases e), hw1.own (b := r5) (by repeat (first | exact List.Mem.head _ | apply List.Mem.tail | apply List.mem_append_right)), hw1.kx.size⟩) ?_
  rintro ⟨seen, ys⟩ hseen wr hbok ⟨hJr, hr5, hszr⟩
  simp only at hseen hJr ⊢
  have hXW : ∀ seen b, XW [(r5, true, hiter M0 c seen), (B, false, cel [.map (some M0)] 62), (M0, false, hmapE es c)] b → r5 = b := by
    rintro seen b ⟨e, he, hwr, rfl⟩
    simp only [List.mem_cons, List.not_mem_nil, or_false] at he
    rcases he with rfl | rfl | rfl
    · rfl
    · cases hwr
    · cases hwr
  have hIr : wr.heap[r5]? = some (.mapIter (some M0) c seen c) := by
    obtain ⟨o, h5, h6⟩ := hbok.bl (r5, true, hiter M0 c seen) (by repeat (first | exact List.Mem.head _ | apply List.Mem.tail | apply List.mem_append_right))
    rw [h5]
    exact congrArg some h6
  have hwalk : ∀ (wx : World) (sn : Array Nat), wx.heap[r5]? = some (.mapIter (some M0) c sn c) → ∀ q, some r5 = some q → W.heap.size ≤ q ∧ ∃ o : Obj, wx.heap[q]? = some o ∧ o.isWalk = true := fun wx sn h q e => by
    cases e
    exact ⟨hr5, _, h, rfl⟩
  have hJn : ∀ (X : Nat → Prop) (w1 : World), (∀ b, X b → r5 = b) → Kx X wr w1 → J ys w1 := fun X w1 hX kx => hJ ys wr w1 (some r5) hJr (kx.grown (fun k q => congrArg some (hX k q))) (hwalk wr seen hIr)
  with_reducible repeat refine xc_seq ?_
  with_reducible refine xc_region ?_
  refine xo_next rfl rfl (by repeat (first | exact List.Mem.head _ | apply List.Mem.tail | apply List.mem_append_right)) (by repeat (first | exact List.Mem.head _ | apply List.Mem.tail | apply List.mem_append_right)) hE (fun seen' => Upd.head) rfl (fun hall => ?_) (fun e he hns => ?_)
  · refine xo_ext rfl rfl rfl rfl ?_
    with_reducible refine xo_nil ?_
    with_reducible repeat (first | refine xq_then ?_ | refine xq_blockN ?_ | refine xq_scopeN ?_)
    with_reducible repeat refine xc_seq ?_
    refine xc_condF rfl ?_
    with_reducible refine xc_exit ?_
    with_reducible repeat (first | refine xq_blockX ?_ | refine xq_thenE ?_ | refine xq_blockE rfl ?_ | refine xq_scopeE ?_)
    exact xq_end0 rfl fun w2 hw2 => ⟨⟨_, rfl⟩, .inl ⟨ys, hseen.all hE hall, hJn _ _ (hXW seen) hw2.kx⟩⟩
  · obtain ⟨k, hk, hk1, hk2⟩ := hE.setV he
    have hst := hseen.step hE he hns hk1
    have hlen : ys.length < s.length := by
      have := hst.len hE
      simp at this
      omega
    rw [hk1, hk2]
    refine xo_ext rfl rfl rfl rfl ?_
    with_reducible refine xo_nil ?_
    with_reducible repeat (first | refine xq_then ?_ | refine xq_blockN ?_ | refine xq_scopeN ?_)
    with_reducible repeat refine xc_seq ?_
    refine xc_condT rfl ?_
    with_reducible refine xc_skip ?_
    with_reducible repeat (first | refine xq_then ?_ | refine xq_blockN ?_ | refine xq_scopeN ?_)
    with_reducible repeat refine xc_seq ?_
    with_reducible refine xc_block ?_
    with_reducible repeat refine xc_seq ?_
    with_reducible refine xc_region ?_
    refine xo_entry rfl rfl (by repeat (first | exact List.Mem.head _ | apply List.Mem.tail | apply List.mem_append_right)) (by repeat (first | exact List.Mem.head _ | apply List.Mem.tail | apply List.mem_append_right)) hE he rfl ?_
    rw [hk1, hk2]
    refine xo_ext rfl rfl rfl rfl ?_
    refine xo_asg rfl rfl rfl ?_
    with_reducible refine xo_nil ?_
    with_reducible repeat (first | refine xq_then ?_ | refine xq_blockN ?_ | refine xq_scopeN ?_)
    with_reducible repeat refine xc_seq ?_
    with_reducible refine xc_region ?_
    refine xo_mv rfl rfl rfl ?_
    refine xo_mv rfl rfl rfl ?_
    refine xo_yield rfl rfl rfl rfl (fun w1 hw1 => ?_)
    obtain ⟨fn, tmps, assign, body, hy1, hy2⟩ := hY ys k w1 (hJn _ _ (hXW _) hw1.kx) hlen
    refine ⟨fn, tmps, assign, body, hy1, hy2.mono ?_⟩
    have hI1 : w1.heap[r5]? = some (.mapIter (some M0) c (seen.push e.born) c) := by
      obtain ⟨o, h5, h6⟩ := hw1.bl (r5, true, hiter M0 c (seen.push e.born)) (by repeat (first | exact List.Mem.head _ | apply List.Mem.tail | apply List.mem_append_right))
      rw [h5]
      exact congrArg some h6
    have hB1 := hw1.obj (b := B) (wr := false) (cs := [.map (some M0)]) (t := 62) (by repeat (first | exact List.Mem.head _ | apply List.Mem.tail | apply List.mem_append_right))
    have hM1 : w1.heap[M0]? = some (.map es c) := by
      obtain ⟨o, h5, h6⟩ := hw1.bl (M0, false, hmapE es c) (by repeat (first | exact List.Mem.head _ | apply List.Mem.tail | apply List.mem_append_right))
      rw [h5]
      exact congrArg some h6
    have hsz1 := hw1.kx.size
    clear hw1 hy1 hy2
    rintro e2 W3 (⟨rfl, hJ3, hk3⟩ | ⟨rfl, hJx3⟩)
    · have hI3 := hk3.2.2 r5 _ (by omega) hI1 rfl
      have hB3 := (hk3.1 B (hK B (.inl rfl))).trans hB1
      have hM3 := (hk3.1 M0 (hK M0 (.inr rfl))).trans hM1
      have n5B : r5 ≠ B := by omega
      have n5M : r5 ≠ M0 := by omega
      have hsz3 : W.heap.size ≤ W3.heap.size := by have := hk3.2.1; omega
      have hbok3 : BOK [(r5, true, hiter M0 c (seen.push e.born)), (B, false, cel [.map (some M0)] 62), (M0, false, hmapE es c)] W3 := by
        refine ⟨?_, by simp [n5B, n5M, nBM]⟩
        intro e he
        simp only [List.mem_cons, List.not_mem_nil, or_false] at he
        rcases he with rfl | rfl | rfl
        · exact ⟨_, hI3, rfl⟩
        · exact ⟨_, hB3, rfl⟩
        · exact ⟨_, hM3, rfl⟩
      refine ⟨.bool true, _, W3, _, rfl, hbok3.wok, ?_⟩
      refine xo_notOp rfl rfl rfl ?_
      with_reducible refine xo_nil ?_
      with_reducible repeat (first | refine xq_then ?_ | refine xq_blockN ?_ | refine xq_scopeN ?_)
      with_reducible repeat refine xc_seq ?_
      refine xc_condF rfl ?_
      with_reducible refine xc_skip ?_
      with_reducible repeat (first | refine xq_then ?_ | refine xq_blockN ?_ | refine xq_scopeN ?_)
      refine xq_againJ _ _ _ _ _ _ (seen.push e.born, ys ++ [k]) hst (by simp only [List.length_append, List.length_cons, List.length_nil]; omega) ⟨rfl, rfl, trivial⟩
        (fun w1 hw1 => ⟨hw1.bok (by repeat (first | exact List.Sublist.refl _ | apply List.Sublist.cons_cons | apply List.Sublist.cons | exact List.nil_sublist _)), hJ _ W3 w1 (some r5) hJ3 (hw1.kx.grown (fun k q => congrArg some (hXW _ k q))) (hwalk W3 _ hI3), hr5, Nat.le_trans hsz3 hw1.kx.size⟩)
    · refine ⟨.bool false, [], W3, XNone, rfl, WOK.start _ _, ?_⟩
      refine xo_notOp rfl rfl rfl ?_
      with_reducible refine xo_nil ?_
      with_reducible repeat (first | refine xq_then ?_ | refine xq_blockN ?_ | refine xq_scopeN ?_)
      with_reducible repeat refine xc_seq ?_
      refine xc_condT rfl ?_
      with_reducible repeat refine xc_seq ?_
      with_reducible refine xc_ret ?_
      with_reducible repeat (first | refine xq_thenR ?_ | refine xq_blockR ?_ | refine xq_scopeR ?_)
      exact xq_ret0 rfl fun w2 hw2 => ⟨⟨_, rfl⟩, .inr ⟨_, trivial, hJx _ W3 w2 none hJx3 (hw2.kx.grown (fun k q => q.elim)) (fun r e => by cases e)⟩⟩
end Go.Proofs.YtcmepdamemnbkaaDoor
namespace Go.Proofs.YtcmepdamemnbkaaDoor
open Go.RowKit
set_option linter.unusedVariables false
set_option linter.unusedSimpArgs false
def sortF (xs : List Int) : List Int := xs.mergeSort fun x y => decide (x ≤ y)
theorem sortF_len (xs : List Int) : (sortF xs).length = xs.length := by simp [sortF]
theorem sort_enters : ∀ args w, (callFunc 72 args).run Tryd.prog w = .ok (.enter 72 args) w := enters_of Tryd.func72 (by kernel_rfl) rfl
theorem sort_calls (b cap : Nat) (xs : List Int) (w : World) (o : Obj) (h1 : w.heap[b]? = some o) (h2 : orow 3 1 xs.length cap (xs.map (.int .i64)) o) (hl : xs.length ≤ 1000000) :
    Calls Tryd.prog 72 #[.slice (some ⟨b, 0, none⟩) xs.length cap] w fun e w' => e = .returned (.tuple #[]) ∧ Kx (fun k => k = b) w w' ∧ ∃ o', w'.heap[b]? = some o' ∧ orow 3 1 xs.length cap ((sortF xs).map (.int .i64)) o' := by
  obtain ⟨cur, rfl, h5, h6, h7, h8⟩ := h2
  rw [Nat.mul_one] at h7 h8
  have hlt : b < w.heap.size := (Array.getElem?_eq_some_iff.1 h1).1
  have hc := Any.slices_Sort_int lays189 b 0 cap xs w (holds_of_blockI h1 h8) hlt (by omega)
  refine Calls.mono (show Calls Tryd.prog 72 _ _ _ from hc) ?_
  rintro e w' ⟨rfl, n, os, rfl⟩
  have hg := grownBy_sortedI (w := w) (g := b) (n := n) (os := os) (xs.mergeSort fun x y => decide (x ≤ y)).toArray
  refine ⟨rfl, ⟨hg.os, hg.tape, hg.output, hg.size, fun k hk hne => hg.block k hk (fun q => hne (Option.some.inj q))⟩, _, heap_sortedI _ h1, _, rfl, h5, h6, ?_, ?_⟩
  · rw [Nat.mul_one, ← h7]
    simp [Sort.putCells]
  · rw [Nat.mul_one]
    have := take_putCellsI cur (sortF xs) (by rw [sortF_len]; omega)
    rw [sortF_len] at this
    exact this
theorem sortF_perm {l l' : List Int} (h : l.Perm l') : sortF l = sortF l' := by
  have tr : ∀ a b c : Int, decide (a ≤ b) = true → decide (b ≤ c) = true → decide (a ≤ c) = true := fun a b c h1 h2 => by simp at *; omega
  have tot : ∀ a b : Int, (decide (a ≤ b) || decide (b ≤ a)) = true := fun a b => by simp; omega
  refine List.Perm.eq_of_pairwise (le := fun a b => decide (a ≤ b) = true) (fun a b _ _ h1 h2 => ?_) (List.pairwise_mergeSort tr tot l) (List.pairwise_mergeSort tr tot l') (((List.mergeSort_perm l _).trans h).trans (List.mergeSort_perm l' _).symm)
  simp only [decide_eq_true_eq] at h1 h2
  omega
theorem keys_enters : ∀ args w, (callFunc 64 args).run Tryd.prog w = .ok (.enter 64 args) w := enters_of Tryd.func64 (by kernel_rfl) rfl
theorem keys_calls (M0 : Nat) (w : World) :
    Calls Tryd.prog 64 #[.map (some M0)] w fun e w' => ∃ B, e = .returned (.func (.func 78) #[] #[.pointer (some ⟨B, 0, none⟩)]) ∧ w.heap.size ≤ B ∧ w'.heap[B]? = some (.cells #[.map (some M0)] 62 (0, 0)) ∧ Below w.heap.size w w' := by
  refine x_calls (X := XNone) Tryd.func64 rfl rfl rfl ?_
  with_reducible repeat refine xc_seq ?_
  with_reducible refine xc_region ?_
  refine xo_box rfl rfl rfl rfl (fun b1 => ?_)
  refine xo_asg rfl rfl rfl ?_
  with_reducible refine xo_nil ?_
  with_reducible repeat (first | refine xq_then ?_ | refine xq_blockN ?_ | refine xq_scopeN ?_)
  with_reducible repeat refine xc_seq ?_
  with_reducible refine xc_region ?_
  refine xo_mkf rfl rfl rfl rfl ?_
  refine xo_asg rfl rfl rfl ?_
  with_reducible refine xo_nil ?_
  with_reducible repeat (first | refine xq_then ?_ | refine xq_blockN ?_ | refine xq_scopeN ?_)
  with_reducible repeat refine xc_seq ?_
  with_reducible refine xc_ret ?_
  with_reducible repeat (first | refine xq_thenR ?_ | refine xq_blockR ?_ | refine xq_scopeR ?_)
  exact xq_ret1 rfl rfl fun w' hw => ⟨b1, rfl, hw.own (by repeat (first | exact List.Mem.head _ | apply List.Mem.tail | apply List.mem_append_right)), hw.obj (wr := true) (cs := [.map (some M0)]) (by repeat (first | exact List.Mem.head _ | apply List.Mem.tail | apply List.mem_append_right)), hw.kx.below⟩
end Go.Proofs.YtcmepdamemnbkaaDoor
namespace Go.Proofs.YtcmepdamemnbkaaDoor
open Go.Shelf Go.RowKit
set_option maxRecDepth 100000
def ren125 : Ren := ⟨fun n => bif Nat.beq n 125 then 85 else bif Nat.beq n 128 then 96 else bif Nat.beq n 129 then 97 else n, fun n => bif Nat.beq n 3 then 3 else bif Nat.beq n 4 then 4 else bif Nat.beq n 5 then 5 else bif Nat.beq n 9 then 9 else bif Nat.beq n 46 then 126 else bif Nat.beq n 51 then 59 else bif Nat.beq n 53 then 138 else n, fun n => n⟩
theorem lays125 : Lays.n125 Tryd.prog ren125 where
  mixed := T_.mixed
  f125 := by kernel_rfl
  f128 := by kernel_rfl
  f129 := by kernel_rfl
  t3 := by kernel_rfl
  a3 := fun w => by kernel_rfl
  z3 := fun w => by kernel_rfl
  v3 := fun w => by kernel_rfl
  t4 := by kernel_rfl
  a4 := fun w => by kernel_rfl
  z4 := fun w => by kernel_rfl
  v4 := fun w => by kernel_rfl
  t5 := by kernel_rfl
  a5 := fun w => by kernel_rfl
  z5 := fun w => by kernel_rfl
  v5 := fun w => by kernel_rfl
  t9 := by kernel_rfl
  a9 := fun w => by kernel_rfl
  z9 := fun w => by kernel_rfl
  v9 := fun w => by kernel_rfl
  t46 := by kernel_rfl
  a46 := fun w => by kernel_rfl
  z46 := fun w => by kernel_rfl
  v46 := fun w => by kernel_rfl
  t51 := by kernel_rfl
  a51 := fun w => by kernel_rfl
  z51 := fun w => by kernel_rfl
  v51 := fun w => by kernel_rfl
  t53 := by kernel_rfl
  a53 := fun w => by kernel_rfl
  z53 := fun w => by kernel_rfl
  v53 := fun w => by kernel_rfl
end Go.Proofs.YtcmepdamemnbkaaDoor
namespace Go.Proofs.YtcmepdamemnbkaaDoor
open Go.RowKit
set_option linter.unusedVariables false
set_option linter.unusedSimpArgs false
theorem insertion_nil (w : World) : Calls Tryd.prog 87 #[.slice none 0 0, .int .i64 0, .int .i64 0] w fun e w' => e = .returned (.tuple #[]) ∧ Below w.heap.size w w' := by
  refine x_calls (X := XNone) Tryd.func87 rfl rfl rfl ?_
  with_reducible repeat refine xc_seq ?_
  with_reducible refine xc_region ?_
  refine xo_mv rfl rfl rfl ?_
  refine xo_add rfl rfl rfl (by omega) rfl ?_
  refine xo_asg rfl rfl rfl ?_
  with_reducible refine xo_nil ?_
  with_reducible repeat (first | refine xq_then ?_ | refine xq_blockN ?_ | refine xq_scopeN ?_)
  with_reducible repeat refine xc_seq ?_
  with_reducible refine xc_block ?_
  refine xc_loop (γ := Unit) (fun _ => True) (fun _ => [(2, .int .i64 0), (6, .int .i64 1)]) (fun _ => []) (fun _ => 0) () trivial ⟨rfl, rfl, trivial⟩ (List.Sublist.refl _) ?_
  rintro _ _
  with_reducible repeat refine xc_seq ?_
  with_reducible refine xc_region ?_
  refine xo_mv rfl rfl rfl ?_
  refine xo_mv rfl rfl rfl ?_
  refine xo_lss rfl rfl rfl rfl ?_
  with_reducible refine xo_nil ?_
  with_reducible repeat (first | refine xq_then ?_ | refine xq_blockN ?_ | refine xq_scopeN ?_)
  with_reducible repeat refine xc_seq ?_
  refine xc_condF rfl ?_
  with_reducible refine xc_exit ?_
  with_reducible repeat (first | refine xq_blockX ?_ | refine xq_thenE ?_ | refine xq_blockE rfl ?_ | refine xq_scopeE ?_)
  exact xq_end0 rfl fun w2 hw2 => ⟨rfl, hw2.kx.below⟩
theorem pdq_nil (x : Int) (w : World) : Calls Tryd.prog 84 #[.slice none 0 0, .int .i64 0, .int .i64 0, .int .i64 x] w fun e w' => e = .returned (.tuple #[]) ∧ Below w.heap.size w w' := by
  have eg := enters_of Tryd.func87 (by kernel_rfl) rfl
  refine x_calls (X := XNone) Tryd.func84 rfl rfl rfl ?_
  with_reducible repeat refine xc_seq ?_
  with_reducible refine xc_region ?_
  refine xo_asg rfl rfl rfl ?_
  with_reducible refine xo_nil ?_
  with_reducible repeat (first | refine xq_then ?_ | refine xq_blockN ?_ | refine xq_scopeN ?_)
  with_reducible repeat refine xc_seq ?_
  with_reducible refine xc_region ?_
  refine xo_asg rfl rfl rfl ?_
  with_reducible refine xo_nil ?_
  with_reducible repeat (first | refine xq_then ?_ | refine xq_blockN ?_ | refine xq_scopeN ?_)
  with_reducible repeat refine xc_seq ?_
  with_reducible refine xc_block ?_
  refine xc_loop (γ := Unit) (fun _ => True) (fun _ => [(0, .slice none 0 0), (1, .int .i64 0), (2, .int .i64 0)]) (fun _ => []) (fun _ => 0) () trivial ⟨rfl, rfl, rfl, trivial⟩ (List.Sublist.refl _) ?_
  rintro _ _
  with_reducible repeat refine xc_seq ?_
  with_reducible refine xc_block ?_
  with_reducible repeat refine xc_seq ?_
  with_reducible refine xc_region ?_
  refine xo_mv rfl rfl rfl ?_
  refine xo_mv rfl rfl rfl ?_
  refine xo_sub rfl rfl rfl (by omega) rfl ?_
  refine xo_asg rfl rfl rfl ?_
  with_reducible refine xo_nil ?_
  with_reducible repeat (first | refine xq_then ?_ | refine xq_blockN ?_ | refine xq_scopeN ?_)
  with_reducible repeat refine xc_seq ?_
  with_reducible refine xc_region ?_
  refine xo_mv rfl rfl rfl ?_
  refine xo_leq rfl rfl rfl rfl ?_
  with_reducible refine xo_nil ?_
  with_reducible repeat (first | refine xq_then ?_ | refine xq_blockN ?_ | refine xq_scopeN ?_)
  with_reducible repeat refine xc_seq ?_
  refine xc_condT rfl ?_
  with_reducible repeat refine xc_seq ?_
  with_reducible refine xc_region ?_
  refine xo_mv rfl rfl rfl ?_
  refine xo_mv rfl rfl rfl ?_
  refine xo_mv rfl rfl rfl ?_
  refine xo_callB (fs := []) (cs := []) rfl rfl rfl eg rfl (fun w1 hw1 => insertion_nil w1) ?_
  with_reducible refine xo_nil ?_
  with_reducible repeat (first | refine xq_then ?_ | refine xq_blockN ?_ | refine xq_scopeN ?_)
  with_reducible repeat refine xc_seq ?_
  with_reducible refine xc_ret ?_
  with_reducible repeat (first | refine xq_thenR ?_ | refine xq_blockR ?_ | refine xq_scopeR ?_)
  exact xq_ret0 rfl fun w2 hw2 => ⟨rfl, hw2.kx.below⟩
theorem sort_nil (w : World) : Calls Tryd.prog 72 #[.slice none 0 0] w fun e w' => e = .returned (.tuple #[]) ∧ Below w.heap.size w w' := by
  have eg := enters_of Tryd.func84 (by kernel_rfl) rfl
  have eg2 := enters_of Tryd.func85 (by kernel_rfl) rfl
  refine x_calls (X := XNone) Tryd.func72 rfl rfl rfl ?_
  with_reducible repeat refine xc_seq ?_
  with_reducible refine xc_region ?_
  refine xo_mv rfl rfl rfl ?_
  refine xo_len T_ rfl rfl rfl rfl ?_
  refine xo_asg rfl rfl rfl ?_
  with_reducible refine xo_nil ?_
  with_reducible repeat (first | refine xq_then ?_ | refine xq_blockN ?_ | refine xq_scopeN ?_)
  with_reducible repeat refine xc_seq ?_
  with_reducible refine xc_region ?_
  refine xo_mv rfl rfl rfl ?_
  refine xo_mv rfl rfl rfl ?_
  refine xo_mv rfl rfl rfl ?_
  refine xo_conv T_ rfl rfl rfl rfl (by decide) rfl ?_
  refine xo_callB (fs := []) (cs := []) rfl rfl rfl eg2 rfl (fun w1 hw1 => (Any.bits_Len lays125 0 w1 (by omega) (by omega)).mono (fun e w' h => ⟨h.1, by rw [h.2]; exact Below.refl _ _⟩)) ?_
  refine xo_callB (fs := []) (cs := []) rfl rfl rfl eg rfl (fun w1 hw1 => pdq_nil _ w1) ?_
  with_reducible refine xo_nil ?_
  with_reducible repeat (first | refine xq_then ?_ | refine xq_blockN ?_ | refine xq_scopeN ?_)
  exact xq_end0 rfl fun w2 hw2 => ⟨rfl, hw2.kx.below⟩
theorem collectS_enters : ∀ args w, (callFunc 56 args).run Tryd.prog w = .ok (.enter 56 args) w := enters_of Tryd.func56 (by kernel_rfl) rfl
theorem sorted_enters : ∀ args w, (callFunc 52 args).run Tryd.prog w = .ok (.enter 52 args) w := enters_of Tryd.func52 (by kernel_rfl) rfl
theorem sorted_calls (g : Nat) (cs : List Value) (eg : ∀ args w, (callFunc g args).run Tryd.prog w = .ok (.enter g args) w) (need : Nat → Prop) (s : List Int) (M : Nat) (w : World) (hit : IterS Tryd.prog g cs w need (fun ys => ys.Perm s) M) (hneed : ∀ k, need k → k < w.heap.size) (hlen : M ≤ 1000000) (hs : s.length ≤ 1000000) :
    Calls Tryd.prog 52 #[.func (.func g) #[] cs.toArray] w fun e w' => ∃ r : RowR, e = .returned (valR r (sortF s).length) ∧ RowAt 3 w.heap.size w' r (sortF s) ∧ Below w.heap.size w w' := by
  refine x_calls (X := XNone) Tryd.func52 rfl rfl rfl ?_
  with_reducible repeat refine xc_seq ?_
  with_reducible refine xc_region ?_
  refine xo_asg rfl rfl rfl ?_
  with_reducible refine xo_nil ?_
  with_reducible repeat (first | refine xq_then ?_ | refine xq_blockN ?_ | refine xq_scopeN ?_)
  with_reducible repeat refine xc_seq ?_
  with_reducible refine xc_region ?_
  refine xo_mv rfl rfl rfl ?_
  refine xo_call (fs := []) (cs := []) rfl rfl rfl collectS_enters rfl (fun w1 hw1 => (collectS_calls g cs eg need _ M w1 (fun w2 h1 h2 => hit w2 (Nat.le_trans hw1.kx.size h1) (fun k hk => (h2 k hk).trans (hw1.kx.below.block k (hneed k hk)))) (fun k hk => Nat.lt_of_lt_of_le (hneed k hk) hw1.kx.size) hlen).mono ?_)
  rintro e w2 ⟨xs, r, hS, rfl, hrow, hb⟩
  have h0 := hrow.1
  refine ⟨_, _, rfl, hw1.row hb hrow, ?_⟩
  clear hrow hb hw1
  have hxl : xs.length = s.length := hS.length_eq
  have hsx : sortF s = sortF xs := (sortF_perm hS).symm
  refine xo_asg rfl rfl rfl ?_
  with_reducible refine xo_nil ?_
  with_reducible repeat (first | refine xq_then ?_ | refine xq_blockN ?_ | refine xq_scopeN ?_)
  rcases r with _ | ⟨b, cap⟩
  · obtain rfl := h0 rfl
    with_reducible repeat refine xc_seq ?_
    with_reducible refine xc_region ?_
    refine xo_mv rfl rfl rfl ?_
    refine xo_callB (fs := []) (cs := []) rfl rfl rfl sort_enters rfl (fun w1 hw1 => sort_nil w1) ?_
    with_reducible refine xo_nil ?_
    with_reducible repeat (first | refine xq_then ?_ | refine xq_blockN ?_ | refine xq_scopeN ?_)
    with_reducible repeat refine xc_seq ?_
    with_reducible refine xc_region ?_
    refine xo_mv rfl rfl rfl ?_
    refine xo_asg rfl rfl rfl ?_
    with_reducible refine xo_nil ?_
    with_reducible repeat (first | refine xq_then ?_ | refine xq_blockN ?_ | refine xq_scopeN ?_)
    with_reducible repeat refine xc_seq ?_
    with_reducible refine xc_ret ?_
    with_reducible repeat (first | refine xq_thenR ?_ | refine xq_blockR ?_ | refine xq_scopeR ?_)
    refine xq_ret1 rfl rfl fun w' hw => ⟨none, rfl, ?_, hw.kx.below⟩
    rw [hsx]
    exact ⟨fun _ => by simp [sortF], fun p hp => by cases hp⟩
  · with_reducible repeat refine xc_seq ?_
    with_reducible refine xc_region ?_
    refine xo_mv rfl rfl rfl ?_
    refine xo_call (fs := []) (cs := []) rfl rfl rfl sort_enters rfl (fun w1 hw1 => ?_)
    obtain ⟨o1, ho1, ho2⟩ := hw1.bl (b, true, orow 3 1 xs.length cap (xs.map (.int .i64))) (List.Mem.head _)
    refine (sort_calls b cap xs w1 o1 ho1 ho2 (by omega)).mono ?_
    rintro e w3 ⟨rfl, hk3, o3, ho3, ho4⟩
    refine ⟨_, _, rfl, hw1.updK (φ' := orow 3 1 xs.length cap ((sortF xs).map (.int .i64))) Upd.head hk3 ho3 ho4, ?_⟩
    clear ho3 ho4 hk3 ho1 ho2 hw1
    with_reducible refine xo_nil ?_
    with_reducible repeat (first | refine xq_then ?_ | refine xq_blockN ?_ | refine xq_scopeN ?_)
    with_reducible repeat refine xc_seq ?_
    with_reducible refine xc_region ?_
    refine xo_mv rfl rfl rfl ?_
    refine xo_asg rfl rfl rfl ?_
    with_reducible refine xo_nil ?_
    with_reducible repeat (first | refine xq_then ?_ | refine xq_blockN ?_ | refine xq_scopeN ?_)
    with_reducible repeat refine xc_seq ?_
    with_reducible refine xc_ret ?_
    with_reducible repeat (first | refine xq_thenR ?_ | refine xq_blockR ?_ | refine xq_scopeR ?_)
    refine xq_ret1 rfl rfl fun w' hw => ⟨some (b, cap), by rw [hsx, sortF_len], ?_, hw.kx.below⟩
    rw [hsx]
    refine RowAt.of (η := []) ?_ (fun h => by cases h)
    rw [sortF_len]
    exact hw.sub (List.Sublist.cons_cons _ (List.nil_sublist _))
end Go.Proofs.YtcmepdamemnbkaaDoor
namespace Go.Proofs.YtcmepdamemnbkaaDoor
open Go.RowKit Go.Proofs.YtcmepdamemnbkaaDoorW.PrintWords
set_option linter.unusedVariables false
set_option linter.unusedSimpArgs false
def idsF (r : List RecT) (p : Int → Bool) : List Int := (r.filter fun x => p x.f0).map (·.f0)
theorem idsF_holdsL {G : List Int} {H : List Int} : ∀ (r : List RecT) (bs : List Int), SortedIds r → (∀ i, i < r.length → (idAt r i ∈ H ↔ idAt r i ∈ holdsL G bs r)) → idsF r (fun n => decide (n ∈ H)) = holdsL G bs r
  | [], _, _, _ => rfl
  | x :: r, bs, hs, h => by
    have hs2 : SortedIds r := fun j hj => by
      have := hs (j + 1) (by simpa using hj)
      simpa [idAt] using this
    have h0 := h 0 (by simp)
    have hx : idAt (x :: r) 0 = x.f0 := rfl
    rw [hx] at h0
    have hi : ∀ i, idAt (x :: r) (i + 1) = idAt r i := fun i => by simp [idAt]
    have hne : ∀ i, i < r.length → idAt r i ≠ x.f0 := fun i hil e => by
      have := sorted_inj hs (i := i + 1) (j := 0) (by simpa using hil) (by simp) (by rw [hi, hx, e])
      omega
    have hno : ∀ bs, x.f0 ∉ holdsL G bs r := fun bs hm => by
      obtain ⟨i, h1, h2⟩ := holdsL_mem r bs _ hm
      exact hne i h1 h2
    unfold holdsL at h0 h ⊢
    split
    · rename_i hc
      rw [if_pos hc] at h0
      have ih := idsF_holdsL (H := H) r bs hs2 fun i hil => by
        have := h (i + 1) (by simpa using hil)
        rwa [if_pos hc, hi] at this
      rw [← ih, idsF, List.filter_cons, if_neg (by simp; exact fun q => hno _ (h0.1 q))]
      rfl
    · rename_i hc
      rw [if_neg hc] at h0
      have ih := idsF_holdsL (H := H) r (insN x.f0 bs) hs2 fun i hil => by
        have := h (i + 1) (by simpa using hil)
        rw [if_neg hc, hi, List.mem_cons] at this
        rw [this]
        exact ⟨fun q => q.resolve_left (hne i hil), .inr⟩
      rw [← ih, idsF, List.filter_cons, if_pos (by simp; exact h0.2 (List.mem_cons_self ..))]
      rfl
theorem ids_holds {r : List RecT} (hs : SortedIds r) (G : List Int) : idsF r (fun n => decide (n ∈ holdsF r G)) = holdsF r G := idsF_holdsL r [] hs fun _ _ => Iff.rfl
end Go.Proofs.YtcmepdamemnbkaaDoor
namespace Go.Proofs.YtcmepdamemnbkaaDoor
open Go.RowKit Go.Proofs.YtcmepdamemnbkaaDoorW.PrintWords
set_option linter.unusedVariables false
set_option linter.unusedSimpArgs false
theorem check_zero {r : List RecT} {l : List LetT} (h : checkF r l = 0) : recordedF r = true := by
  unfold checkF at h
  split at h
  · assumption
  · cases h
end Go.Proofs.YtcmepdamemnbkaaDoor
namespace Go.Proofs.YtcmepdamemnbkaaDoor
open Go.RowKit Go.Proofs.YtcmepdamemnbkaaDoorW.PrintWords
set_option linter.unusedVariables false
set_option linter.unusedSimpArgs false
end Go.Proofs.YtcmepdamemnbkaaDoor
namespace Go.Proofs.YtcmepdamemnbkaaDoor
open Go.RowKit Go.Proofs.YtcmepdamemnbkaaDoorW.PrintWords
set_option linter.unusedVariables false
set_option linter.unusedSimpArgs false
def bitB (k i : Nat) : Bool := decide (((k / 2 ^ i % 2 : Nat) : Int) = 1)
/-- the ids that a mask picks -/
def selM (r : List RecT) (k : Nat) : List Int := ((List.range r.length).filter (bitB k)).map (idAt r)
theorem selM_iff {r : List RecT} (hs : SortedIds r) {k i : Nat} (hi : i < r.length) : idAt r i ∈ selM r k ↔ bitB k i = true := by
  simp only [selM, List.mem_map, List.mem_filter, List.mem_range]
  constructor
  · rintro ⟨j, ⟨h1, h2⟩, h3⟩
    rwa [sorted_inj hs h1 hi h3] at h2
  · intro h
    exact ⟨i, ⟨hi, h⟩, rfl⟩
/-- the ids of r that are not in S -/
def compl (r : List RecT) (S : List Int) : List Int := idsF r fun n => !decide (n ∈ S)
theorem compl_mem {r : List RecT} {S : List Int} {i : Nat} (hi : i < r.length) : idAt r i ∈ compl r S ↔ idAt r i ∉ S := by
  simp only [compl, idsF, List.mem_map, List.mem_filter, Bool.not_eq_true', decide_eq_false_iff_not]
  constructor
  · rintro ⟨x, ⟨_, h1⟩, h2⟩
    rwa [← h2]
  · intro h
    exact ⟨r.getD i zRec, ⟨getD_mem r zRec i hi, h⟩, rfl⟩
def carriesF (r : List RecT) (S : List Int) : Bool := (List.range r.length).all fun i => !decide (idAt r i ∈ S) || decide (idAt r i ∈ holdsF r (compl r S))
end Go.Proofs.YtcmepdamemnbkaaDoor
namespace Go.Proofs.YtcmepdamemnbkaaDoor
open Go.RowKit Go.Proofs.YtcmepdamemnbkaaDoorW.PrintWords
set_option linter.unusedVariables false
set_option linter.unusedSimpArgs false
theorem ad3 (b i j : Nat) : (Addr.add (Addr.add ⟨b, 0, none⟩ ((i : Int).toNat * szN 3)) j) = ⟨b, i * 3 + j, none⟩ := by
  rw [Addr.add_lit, Addr.add_lit, show szN 3 = 3 from rfl]
  simp
theorem flat_ones (vs : List Value) : (vs.map fun v => [v]).flatten = vs := by
  induction vs with
  | nil => rfl
  | cons v vs ih => rw [List.map_cons, List.flatten_cons, ih]; rfl
def intRow (F : Hp) (v : Value) (xs : List Int) : Prop := ∃ b cap, v = .slice (some ⟨b, 0, none⟩) xs.length cap ∧ (b, true, orow 3 1 xs.length cap (xs.map (.int .i64))) ∈ F
def wayRow (F : Hp) (v : Value) (ways : List (List Int)) : Prop := ∃ b cap vs, v = .slice (some ⟨b, 0, none⟩) ways.length cap ∧ (b, true, orow 33 1 ways.length cap vs) ∈ F ∧ vs.length = ways.length ∧ ∀ k u, k < ways.length → vs[k]? = some u → intRow F u (ways.getD k [])
theorem intRow.mono {F G : Hp} {v : Value} {xs : List Int} (h : intRow F v xs) (hs : ∀ e ∈ F, e ∈ G) : intRow G v xs := by
  obtain ⟨b, cap, h1, h2⟩ := h
  exact ⟨b, cap, h1, hs _ h2⟩
theorem wayRow.mono {F G : Hp} {v : Value} {ways : List (List Int)} (h : wayRow F v ways) (hs : ∀ e ∈ F, e ∈ G) : wayRow G v ways := by
  obtain ⟨b, cap, vs, h1, h2, h3, h4⟩ := h
  exact ⟨b, cap, vs, h1, hs _ h2, h3, fun k u hk hu => (h4 k u hk hu).mono hs⟩
theorem intRow.C {F : Hp} {w0 w : World} {X : Nat → Prop} (hw : WOK w0 X F w) {v : Value} {xs : List Int} (h : intRow F v xs) (hm : xs.length ≤ 9223372036854775807) : ∃ A c, v = .slice A xs.length c ∧ xs.length ≤ c ∧ Kd.C (Kd.int .i64) w A xs.length xs := by
  obtain ⟨b, cap, h1, h2⟩ := h
  obtain ⟨o, h3, h4⟩ := hw.bl _ h2
  have h5 : xs.length ≤ cap := by obtain ⟨_, _, h5, _⟩ := h4; exact h5
  exact ⟨_, cap, h1, h5, C_orow h3 h4 rfl hm⟩
theorem wayRow.C {F : Hp} {w0 w : World} {X : Nat → Prop} (hw : WOK w0 X F w) {v : Value} {ways : List (List Int)} (h : wayRow F v ways) (hm : ways.length ≤ 9223372036854775807) (hm2 : ∀ k, k < ways.length → (ways.getD k []).length ≤ 9223372036854775807) : ∃ A c, v = .slice A ways.length c ∧ ways.length ≤ c ∧ Kd.C waysK w A ways.length ways := by
  obtain ⟨b, cap, vs, h1, h2, h3, h4⟩ := h
  obtain ⟨o, h5, h6⟩ := hw.bl _ h2
  have h7 : ways.length ≤ cap := by obtain ⟨_, _, h7, _⟩ := h6; exact h7
  refine ⟨_, cap, h1, h7, C_row (d := waysK) (cells := vs.map fun v => [v]) h5 (e := 33) (cap := cap) ?_ (by simp [h3]) (by intro c hc; obtain ⟨v, _, rfl⟩ := List.mem_map.1 hc; rfl) ?_ hm⟩
  · rw [flat_ones, List.length_map, h3]
    exact h6
  · intro j x c hx hc
    have hj : j < ways.length := (List.getElem?_eq_some_iff.1 hx).1
    have hxd : ways.getD j [] = x := by simp [List.getD_eq_getElem?_getD, hx]
    rw [List.getElem?_map] at hc
    obtain ⟨u, hu, rfl⟩ := Option.map_eq_some_iff.1 hc
    have hlx := hm2 j hj
    obtain ⟨A, c, h8, h9, h10⟩ := (h4 j u hj hu).C hw hlx
    rw [hxd] at h8 h9 h10
    subst h8
    exact ⟨A, c, rfl, h9, h10⟩
/-- a copy of a row, in four steps: nothing yet, the literal, the copy, stored -/
inductive Stg where
  | s0
  | s1 (b : Nat)
  | s2 (b b' cap : Nat)
  | s3 (b b' cap : Nat)
def Stg.x : Stg → Nat
  | .s0 => 0
  | .s1 b => b
  | .s2 b _ _ => b
  | .s3 b _ _ => b
def Stg.y : Stg → Nat
  | .s2 _ b _ => b
  | .s3 _ b _ => b
  | _ => 0
def Stg.z : Stg → Nat
  | .s2 _ _ c => c
  | .s3 _ _ c => c
  | _ => 0
def hG (m : Nat) (ints : List Value) (base : Hp) (base' : Nat → Nat → Hp) : Stg → Hp
  | .s0 => base
  | .s1 b => (b, true, orow 3 1 0 0 []) :: base
  | .s2 _ b' cap => (b', true, orow 3 1 m cap ints) :: base
  | .s3 _ b' cap => (b', true, orow 3 1 m cap ints) :: base' b' cap
end Go.Proofs.YtcmepdamemnbkaaDoor
namespace Go.Proofs.YtcmepdamemnbkaaDoor
open Go.RowKit Go.Proofs.YtcmepdamemnbkaaDoorW.PrintWords
set_option linter.unusedVariables false
set_option linter.unusedSimpArgs false
def lexF : List Int → List Int → Bool
  | x :: a, y :: b => if x = y then lexF a b else decide (x < y)
  | _, _ => false
def aheadF (xs ys : List Int) : Bool := if xs.length = ys.length then lexF xs ys else decide (xs.length < ys.length)
section
variable {P : Program} {ro : Option Nat} {n N : Nat} {ds : List Deferred} {w0 : World} {X : Nat → Prop} {Q : Exit → Act → World → Prop} {σ : Slots} {η : Hp} {ops rest : List Oper} {d : Option Tmp} {ty t t' : TypeId} {pos : String} {aft : Array Edge} {g : Option (Nat × Bool)}
theorem xo_lenR (T : Tys P) {x : Operand} {t e : TypeId} {r : RowR} {m : Nat} (hg : gS ops σ g = some true) (hx : ev σ x = some (valR r m)) (h0 : r = none → m = 0) (ht : look t T.el = some e) (hN : dstOK N d = true) (h : XO P ro n N ds w0 X Q ops (putS d (.int .i64 (m : Int)) σ) η rest) :
    XO P ro n N ds w0 X Q ops σ η (⟨d, .call { callee := .builtin .len, args := #[x], argTypes := #[t] }, ty, pos, aft, g⟩ :: rest) := by
  rcases r with _ | p
  · have := h0 rfl
    subst this
    exact xo_len T hg hx ht hN h
  · exact xo_len T hg hx ht hN h
end
def okI (r : List RecT) (H : List Int) (at_ k i : Nat) : Bool := bitB k at_ && (List.range i).all fun j => !bitB k j || decide (idAt r j ∈ H)
/-- one mask of the search -/
def restsStep (r : List RecT) (H : List Int) (at_ : Nat) (best : List Int) (k : Nat) : List Int :=
  if okI r H at_ k r.length && carriesF r (selM r k) && (decide ((best.length : Int) = 0) || aheadF (idsF r fun n => decide (n ∈ selM r k)) best) then idsF r fun n => decide (n ∈ selM r k) else best
def restsBest (r : List RecT) (H : List Int) (at_ m : Nat) : List Int := (List.range m).foldl (restsStep r H at_) []
end Go.Proofs.YtcmepdamemnbkaaDoor
namespace Go.Proofs.YtcmepdamemnbkaaDoor
open Go.RowKit Go.Proofs.YtcmepdamemnbkaaDoorW.PrintWords
set_option linter.unusedVariables false
set_option linter.unusedSimpArgs false
theorem isNaN_calls (x : Int) (w : World) : Calls Tryd.prog 98 #[.int .i64 x] w fun e w' => e = .returned (.bool false) ∧ Below w.heap.size w w' := by
  refine x_calls (X := XNone) Tryd.func98 rfl rfl rfl ?_
  with_reducible repeat refine xc_seq ?_
  with_reducible refine xc_region ?_
  refine xo_asg rfl rfl rfl ?_
  with_reducible refine xo_nil ?_
  with_reducible repeat (first | refine xq_then ?_ | refine xq_blockN ?_ | refine xq_scopeN ?_)
  with_reducible repeat refine xc_seq ?_
  with_reducible refine xc_region ?_
  refine xo_mv rfl rfl rfl ?_
  refine xo_mv rfl rfl rfl ?_
  refine xo_neq rfl rfl rfl rfl ?_
  refine xo_as (i := 5) rfl (congrArg Value.bool (ne_ff x)) ?_
  refine xo_asg rfl rfl rfl ?_
  with_reducible refine xo_nil ?_
  with_reducible repeat (first | refine xq_then ?_ | refine xq_blockN ?_ | refine xq_scopeN ?_)
  with_reducible repeat refine xc_seq ?_
  with_reducible refine xc_ret ?_
  with_reducible repeat (first | refine xq_thenR ?_ | refine xq_blockR ?_ | refine xq_scopeR ?_)
  exact xq_ret1 rfl rfl fun w' hw => ⟨rfl, hw.kx.below⟩
def cmpI (x y : Int) : Int := if x < y then -1 else if y < x then 1 else 0
theorem cmp_calls (x y : Int) (w : World) : Calls Tryd.prog 86 #[.int .i64 x, .int .i64 y] w fun e w' => e = .returned (.int .i64 (cmpI x y)) ∧ Below w.heap.size w w' := by
  have eg := enters_of Tryd.func98 (by kernel_rfl) rfl
  refine x_calls (X := XNone) Tryd.func86 rfl rfl rfl ?_
  with_reducible repeat refine xc_seq ?_
  with_reducible refine xc_region ?_
  refine xo_asg rfl rfl rfl ?_
  with_reducible refine xo_nil ?_
  with_reducible repeat (first | refine xq_then ?_ | refine xq_blockN ?_ | refine xq_scopeN ?_)
  with_reducible repeat refine xc_seq ?_
  with_reducible refine xc_region ?_
  refine xo_mv rfl rfl rfl ?_
  refine xo_callB (fs := []) (cs := []) rfl rfl rfl eg rfl (fun w1 hw1 => isNaN_calls x w1) ?_
  refine xo_asg rfl rfl rfl ?_
  with_reducible refine xo_nil ?_
  with_reducible repeat (first | refine xq_then ?_ | refine xq_blockN ?_ | refine xq_scopeN ?_)
  with_reducible repeat refine xc_seq ?_
  with_reducible refine xc_region ?_
  refine xo_mv rfl rfl rfl ?_
  refine xo_callB (fs := []) (cs := []) rfl rfl rfl eg rfl (fun w1 hw1 => isNaN_calls y w1) ?_
  refine xo_asg rfl rfl rfl ?_
  with_reducible refine xo_nil ?_
  with_reducible repeat (first | refine xq_then ?_ | refine xq_blockN ?_ | refine xq_scopeN ?_)
  with_reducible repeat refine xc_seq ?_
  with_reducible refine xc_region ?_
  refine xo_mv rfl rfl rfl ?_
  with_reducible refine xo_nil ?_
  with_reducible repeat (first | refine xq_then ?_ | refine xq_blockN ?_ | refine xq_scopeN ?_)
  with_reducible repeat refine xc_seq ?_
  refine xc_condF rfl ?_
  with_reducible refine xc_skip ?_
  with_reducible repeat (first | refine xq_then ?_ | refine xq_blockN ?_ | refine xq_scopeN ?_)
  with_reducible repeat refine xc_seq ?_
  with_reducible refine xc_region ?_
  refine xo_mv rfl rfl rfl ?_
  with_reducible refine xo_nil ?_
  with_reducible repeat (first | refine xq_then ?_ | refine xq_blockN ?_ | refine xq_scopeN ?_)
  with_reducible repeat refine xc_seq ?_
  refine xc_condF rfl ?_
  with_reducible refine xc_skip ?_
  with_reducible repeat (first | refine xq_then ?_ | refine xq_blockN ?_ | refine xq_scopeN ?_)
  with_reducible repeat refine xc_seq ?_
  with_reducible refine xc_region ?_
  refine xo_mv rfl rfl rfl ?_
  refine xo_mv rfl rfl rfl ?_
  refine xo_lss rfl rfl rfl rfl ?_
  with_reducible refine xo_nil ?_
  with_reducible repeat (first | refine xq_then ?_ | refine xq_blockN ?_ | refine xq_scopeN ?_)
  with_reducible repeat refine xc_seq ?_
  refine xc_cond rfl (fun h1 => ?_) (fun h1 => ?_)
  · with_reducible repeat refine xc_seq ?_
    with_reducible refine xc_region ?_
    refine xo_asg rfl rfl rfl ?_
    with_reducible refine xo_nil ?_
    with_reducible repeat (first | refine xq_then ?_ | refine xq_blockN ?_ | refine xq_scopeN ?_)
    with_reducible repeat refine xc_seq ?_
    with_reducible refine xc_ret ?_
    with_reducible repeat (first | refine xq_thenR ?_ | refine xq_blockR ?_ | refine xq_scopeR ?_)
    exact xq_ret1 rfl rfl fun w' hw => ⟨by rw [cmpI, if_pos (of_decide_eq_true h1)], hw.kx.below⟩
  with_reducible refine xc_skip ?_
  with_reducible repeat (first | refine xq_then ?_ | refine xq_blockN ?_ | refine xq_scopeN ?_)
  with_reducible repeat refine xc_seq ?_
  with_reducible refine xc_region ?_
  refine xo_mv rfl rfl rfl ?_
  refine xo_mv rfl rfl rfl ?_
  refine xo_gtr rfl rfl rfl rfl ?_
  with_reducible refine xo_nil ?_
  with_reducible repeat (first | refine xq_then ?_ | refine xq_blockN ?_ | refine xq_scopeN ?_)
  with_reducible repeat refine xc_seq ?_
  refine xc_cond rfl (fun h2 => ?_) (fun h2 => ?_)
  · with_reducible repeat refine xc_seq ?_
    with_reducible refine xc_region ?_
    refine xo_asg rfl rfl rfl ?_
    with_reducible refine xo_nil ?_
    with_reducible repeat (first | refine xq_then ?_ | refine xq_blockN ?_ | refine xq_scopeN ?_)
    with_reducible repeat refine xc_seq ?_
    with_reducible refine xc_ret ?_
    with_reducible repeat (first | refine xq_thenR ?_ | refine xq_blockR ?_ | refine xq_scopeR ?_)
    exact xq_ret1 rfl rfl fun w' hw => ⟨by rw [cmpI, if_neg (of_decide_eq_false h1), if_pos (of_decide_eq_true h2)], hw.kx.below⟩
  with_reducible refine xc_skip ?_
  with_reducible repeat (first | refine xq_then ?_ | refine xq_blockN ?_ | refine xq_scopeN ?_)
  with_reducible repeat refine xc_seq ?_
  with_reducible refine xc_region ?_
  refine xo_asg rfl rfl rfl ?_
  with_reducible refine xo_nil ?_
  with_reducible repeat (first | refine xq_then ?_ | refine xq_blockN ?_ | refine xq_scopeN ?_)
  with_reducible repeat refine xc_seq ?_
  with_reducible refine xc_ret ?_
  with_reducible repeat (first | refine xq_thenR ?_ | refine xq_blockR ?_ | refine xq_scopeR ?_)
  exact xq_ret1 rfl rfl fun w' hw => ⟨by rw [cmpI, if_neg (of_decide_eq_false h1), if_neg (of_decide_eq_false h2)], hw.kx.below⟩
def cmpF : List Int → List Int → Int
  | x :: a, y :: b => if cmpI x y = 0 then cmpF a b else cmpI x y
  | _, _ => 0
theorem cmpF_lex : ∀ a b : List Int, decide (0 ≤ cmpF a b) = !lexF a b
  | [], _ => by simp [cmpF, lexF]
  | _ :: _, [] => by simp [cmpF, lexF]
  | x :: a, y :: b => by
    rw [cmpF, lexF, cmpI]
    by_cases h1 : x < y
    · rw [if_pos h1, if_neg (by decide), if_neg (by omega), decide_eq_true h1]; rfl
    · by_cases h2 : y < x
      · rw [if_neg h1, if_pos h2, if_neg (by decide), if_neg (by omega), decide_eq_false h1]; rfl
      · rw [if_neg h1, if_neg h2, if_pos rfl, if_pos (by omega)]
        exact cmpF_lex a b
theorem compare_enters : ∀ args w, (callFunc 76 args).run Tryd.prog w = .ok (.enter 76 args) w := enters_of Tryd.func76 (by kernel_rfl) rfl
theorem compare_calls (A B : Option Addr) (c c' : Nat) (xs ys : List Int) (w : World) (hr : Kd.C (Kd.int .i64) w A xs.length xs) (hl : Kd.C (Kd.int .i64) w B ys.length ys) (he : xs.length = ys.length) :
    Calls Tryd.prog 76 #[.slice A xs.length c, .slice B ys.length c'] w fun e w' => e = .returned (.int .i64 (cmpF xs ys)) ∧ Below w.heap.size w w' := by
  have hn := hr.2.1
  have eg := enters_of Tryd.func86 (by kernel_rfl) rfl
  refine x_calls (X := XNone) Tryd.func76 rfl rfl rfl ?_
  with_reducible repeat refine xc_seq ?_
  with_reducible refine xc_region ?_
  refine xo_asg rfl rfl rfl ?_
  with_reducible refine xo_nil ?_
  with_reducible repeat (first | refine xq_then ?_ | refine xq_blockN ?_ | refine xq_scopeN ?_)
  with_reducible repeat refine xc_seq ?_
  with_reducible refine xc_region ?_
  refine xo_mv rfl rfl rfl ?_
  refine xo_len T_ rfl rfl rfl rfl ?_
  refine xo_mv rfl rfl rfl ?_
  with_reducible refine xo_nil ?_
  with_reducible repeat (first | refine xq_then ?_ | refine xq_blockN ?_ | refine xq_scopeN ?_)
  with_reducible repeat refine xc_seq ?_
  with_reducible refine xc_block ?_
  refine xc_loop (γ := Nat) (fun k => k ≤ xs.length ∧ cmpF xs ys = cmpF (xs.drop k) (ys.drop k)) (fun k => [(0, .slice A xs.length c), (1, .slice B ys.length c'), (9, .slice A xs.length c), (10, .int .i64 (xs.length : Int)), (11, .int .i64 (k : Int))]) (fun _ => []) (fun k => xs.length - k) 0
    ⟨Nat.zero_le _, rfl⟩ ⟨rfl, rfl, rfl, rfl, rfl, trivial⟩ (List.Sublist.refl _) ?_
  rintro k ⟨hk, hlex⟩
  with_reducible repeat refine xc_seq ?_
  with_reducible refine xc_region ?_
  refine xo_lss rfl rfl rfl rfl ?_
  with_reducible refine xo_nil ?_
  with_reducible repeat (first | refine xq_then ?_ | refine xq_blockN ?_ | refine xq_scopeN ?_)
  with_reducible repeat refine xc_seq ?_
  refine xc_cond rfl (fun h => ?_) (fun h => ?_)
  · have hlt : k < xs.length := by have := of_decide_eq_true h; omega
    obtain ⟨ad, rfl, r1⟩ := int_at hr k hlt
    obtain ⟨bd, rfl, r2⟩ := int_at hl k (by omega)
    rw [drop_at xs 0 k hlt, drop_at ys 0 k (by omega), cmpF] at hlex
    have h19 : decide ((ys.length : Int) ≤ (k : Int)) = false := decide_eq_false (by omega)
    with_reducible refine xc_skip ?_
    with_reducible repeat (first | refine xq_then ?_ | refine xq_blockN ?_ | refine xq_scopeN ?_)
    with_reducible repeat refine xc_seq ?_
    with_reducible refine xc_block ?_
    with_reducible repeat refine xc_seq ?_
    with_reducible refine xc_region ?_
    refine xo_mv rfl rfl rfl ?_
    refine xo_ia T_ rfl rfl rfl rfl rfl ⟨by omega, by omega⟩ rfl ?_
    refine xo_loadR0 T_ rfl rfl rfl (by first | assumption | exact RO.fld (by assumption) rfl) rfl ?_
    refine xo_asg rfl rfl rfl ?_
    refine xo_asg rfl rfl rfl ?_
    with_reducible refine xo_nil ?_
    with_reducible repeat (first | refine xq_then ?_ | refine xq_blockN ?_ | refine xq_scopeN ?_)
    with_reducible repeat refine xc_seq ?_
    with_reducible refine xc_region ?_
    refine xo_mv rfl rfl rfl ?_
    refine xo_mv rfl rfl rfl ?_
    refine xo_len T_ rfl rfl rfl rfl ?_
    refine xo_geq rfl rfl rfl rfl ?_
    refine xo_as (i := 19) rfl (congrArg Value.bool h19) ?_
    with_reducible refine xo_nil ?_
    with_reducible repeat (first | refine xq_then ?_ | refine xq_blockN ?_ | refine xq_scopeN ?_)
    with_reducible repeat refine xc_seq ?_
    refine xc_condF rfl ?_
    with_reducible refine xc_skip ?_
    with_reducible repeat (first | refine xq_then ?_ | refine xq_blockN ?_ | refine xq_scopeN ?_)
    with_reducible repeat refine xc_seq ?_
    with_reducible refine xc_region ?_
    refine xo_mv rfl rfl rfl ?_
    refine xo_mv rfl rfl rfl ?_
    refine xo_ia T_ rfl rfl rfl rfl rfl ⟨by omega, by omega⟩ rfl ?_
    refine xo_loadR0 T_ rfl rfl rfl (by first | assumption | exact RO.fld (by assumption) rfl) rfl ?_
    refine xo_asg rfl rfl rfl ?_
    with_reducible refine xo_nil ?_
    with_reducible repeat (first | refine xq_then ?_ | refine xq_blockN ?_ | refine xq_scopeN ?_)
    with_reducible repeat refine xc_seq ?_
    with_reducible refine xc_region ?_
    refine xo_mv rfl rfl rfl ?_
    refine xo_mv rfl rfl rfl ?_
    refine xo_callB (fs := []) (cs := []) rfl rfl rfl eg rfl (fun w1 hw1 => cmp_calls _ _ w1) ?_
    refine xo_asg rfl rfl rfl ?_
    with_reducible refine xo_nil ?_
    with_reducible repeat (first | refine xq_then ?_ | refine xq_blockN ?_ | refine xq_scopeN ?_)
    with_reducible repeat refine xc_seq ?_
    with_reducible refine xc_region ?_
    refine xo_mv rfl rfl rfl ?_
    refine xo_neq rfl rfl rfl rfl ?_
    with_reducible refine xo_nil ?_
    with_reducible repeat (first | refine xq_then ?_ | refine xq_blockN ?_ | refine xq_scopeN ?_)
    with_reducible repeat refine xc_seq ?_
    refine xc_cond rfl (fun h2 => ?_) (fun h2 => ?_)
    · have h2 : cmpI (xs.getD k 0) (ys.getD k 0) ≠ 0 := by simpa using h2
      with_reducible repeat refine xc_seq ?_
      with_reducible refine xc_region ?_
      refine xo_mv rfl rfl rfl ?_
      refine xo_asg rfl rfl rfl ?_
      with_reducible refine xo_nil ?_
      with_reducible repeat (first | refine xq_then ?_ | refine xq_blockN ?_ | refine xq_scopeN ?_)
      with_reducible repeat refine xc_seq ?_
      with_reducible refine xc_ret ?_
      with_reducible repeat (first | refine xq_thenR ?_ | refine xq_blockR ?_ | refine xq_scopeR ?_)
      exact xq_ret1 rfl rfl fun w' hw => ⟨by rw [hlex, if_neg h2], hw.kx.below⟩
    have h2 : cmpI (xs.getD k 0) (ys.getD k 0) = 0 := by simpa using h2
    with_reducible refine xc_skip ?_
    with_reducible repeat (first | refine xq_then ?_ | refine xq_blockN ?_ | refine xq_scopeN ?_)
    with_reducible repeat refine xc_seq ?_
    with_reducible refine xc_region ?_
    refine xo_add rfl rfl rfl (by omega) rfl ?_
    refine xo_mv rfl rfl rfl ?_
    with_reducible refine xo_nil ?_
    with_reducible repeat (first | refine xq_then ?_ | refine xq_blockN ?_ | refine xq_scopeN ?_)
    exact xq_again _ _ _ _ _ (k + 1) ⟨by omega, by rw [hlex, if_pos h2]⟩ (by omega) ⟨rfl, rfl, rfl, rfl, rfl, trivial⟩ (List.Sublist.refl _)
  · have hge : ¬ k < xs.length := by have := of_decide_eq_false h; omega
    rw [List.drop_of_length_le (by omega)] at hlex
    have h35 : decide ((xs.length : Int) < (ys.length : Int)) = false := decide_eq_false (by omega)
    with_reducible refine xc_exit ?_
    with_reducible repeat (first | refine xq_blockX ?_ | refine xq_thenE ?_ | refine xq_blockE rfl ?_ | refine xq_scopeE ?_)
    with_reducible repeat (first | refine xq_then ?_ | refine xq_blockN ?_ | refine xq_scopeN ?_)
    with_reducible repeat refine xc_seq ?_
    with_reducible refine xc_region ?_
    refine xo_mv rfl rfl rfl ?_
    refine xo_len T_ rfl rfl rfl rfl ?_
    refine xo_mv rfl rfl rfl ?_
    refine xo_len T_ rfl rfl rfl rfl ?_
    refine xo_lss rfl rfl rfl rfl ?_
    refine xo_as (i := 35) rfl (congrArg Value.bool h35) ?_
    with_reducible refine xo_nil ?_
    with_reducible repeat (first | refine xq_then ?_ | refine xq_blockN ?_ | refine xq_scopeN ?_)
    with_reducible repeat refine xc_seq ?_
    refine xc_condF rfl ?_
    with_reducible refine xc_skip ?_
    with_reducible repeat (first | refine xq_then ?_ | refine xq_blockN ?_ | refine xq_scopeN ?_)
    with_reducible repeat refine xc_seq ?_
    with_reducible refine xc_region ?_
    refine xo_asg rfl rfl rfl ?_
    with_reducible refine xo_nil ?_
    with_reducible repeat (first | refine xq_then ?_ | refine xq_blockN ?_ | refine xq_scopeN ?_)
    with_reducible repeat refine xc_seq ?_
    with_reducible refine xc_ret ?_
    with_reducible repeat (first | refine xq_thenR ?_ | refine xq_blockR ?_ | refine xq_scopeR ?_)
    exact xq_ret1 rfl rfl fun w' hw => ⟨by rw [hlex]; rfl, hw.kx.below⟩
end Go.Proofs.YtcmepdamemnbkaaDoor
namespace Go.Proofs.YtcmepdamemnbkaaDoor
open Go.RowKit Go.MapKept
set_option linter.unusedVariables false
set_option linter.unusedSimpArgs false
theorem clone_enters : ∀ args w, (callFunc 63 args).run Tryd.prog w = .ok (.enter 63 args) w := enters_of Tryd.func63 (by kernel_rfl) rfl
set_option maxRecDepth 100000 in
set_option maxHeartbeats 2000000 in
theorem clone_calls (b : Nat) (es : Array MapEntry) (clock : Nat) (w : World) (hb : w.heap[b]? = some (.map es clock)) :
    Calls Tryd.prog 63 #[.map (some b)] w fun e w' => e = .returned (.map (some w.heap.size)) ∧ w' = w.alloc (.map es clock) := by
  have hq := fun w => run_eql_map_nil_sl (P := Tryd.prog) w 62 _ _ (some b) Tryd.underlying62
  go_enter Tryd.func63, Tryd.ntmps63
  go_wp2
  rw [run_callFunc_extern Tryd.func77 (by kernel_rfl) (by kernel_rfl) (by kernel_rfl) (e := Extern.MapsClone.clone) (by kernel_rfl), run_maps_clone_sl w 62 hb]
  simp only [Result.andThen]
  rw [Oper.upon_value]
  go_wp2
  rw [run_typeAssert_map_sl _ 62 _ _ _ _ Tryd.underlying62]
  simp only [Result.andThen]
  rw [Oper.upon_value]
  go_wp2
  go_ret
  exact ⟨rfl, rfl⟩
end Go.Proofs.YtcmepdamemnbkaaDoor
namespace Go.Proofs.YtcmepdamemnbkaaDoor
open Go.RowKit Go.Proofs.YtcmepdamemnbkaaDoorW.PrintWords
set_option linter.unusedVariables false
set_option linter.unusedSimpArgs false
/-- what the reference's Rests and Causes are asked beside: the record's place -/
theorem refOpen_zero {r : List RecT} {l : List LetT} {day id : Int} (ho : openF r l day [id] = 0) : recordedF r = true ∧ knownF r id = true := by
  have hck : checkF r l = 0 := by
    unfold openF at ho
    split at ho
    · assumption
    · exact absurd ho (by assumption)
  refine ⟨check_zero hck, ?_⟩
  unfold openF at ho
  rw [if_pos hck] at ho
  split at ho
  · split at ho
    · rename_i h; simpa using h
    · cases ho
  · cases ho
def refRestsR (r : List RecT) (l : List LetT) (day id : Int) : List Int := if openF r l day [id] = 0 ∧ id ∈ holdsF r (goneF r l day) then restsBest r (holdsF r (goneF r l day)) (atF r id).toNat (2 ^ r.length) else []
def refRestsC (r : List RecT) (l : List LetT) (day id : Int) : Int := if openF r l day [id] = 0 then (if id ∈ holdsF r (goneF r l day) then 0 else 8) else openF r l day [id]
end Go.Proofs.YtcmepdamemnbkaaDoor
namespace Go.Proofs.YtcmepdamemnbkaaDoor
open Go.RowKit Go.Proofs.YtcmepdamemnbkaaDoorW.PrintWords
set_option linter.unusedVariables false
set_option linter.unusedSimpArgs false
def okC (r : List RecT) (G : List Int) (k i : Nat) : Bool := (List.range i).all fun j => !bitB k j || decide (idAt r j ∈ G)
/-- the ids of G that are not in S -/
def diffF (G S : List Int) : List Int := G.filter fun n => !decide (n ∈ S)
def causesStep (r : List RecT) (G : List Int) (at_ : Nat) (best : List Int) (k : Nat) : List Int :=
  if okC r G k r.length && decide (idAt r at_ ∈ holdsF r (diffF G (selM r k))) && (decide ((best.length : Int) = 0) || aheadF (idsF r fun n => decide (n ∈ selM r k)) best) then idsF r fun n => decide (n ∈ selM r k) else best
def causesBest (r : List RecT) (G : List Int) (at_ m : Nat) : List Int := (List.range m).foldl (causesStep r G at_) []
def refCausesR (r : List RecT) (l : List LetT) (day id : Int) : List Int := if openF r l day [id] = 0 ∧ id ∉ holdsF r (goneF r l day) then causesBest r (goneF r l day) (atF r id).toNat (2 ^ r.length) else []
def refCausesC (r : List RecT) (l : List LetT) (day id : Int) : Int := if openF r l day [id] = 0 then (if id ∈ holdsF r (goneF r l day) then 8 else 0) else openF r l day [id]
end Go.Proofs.YtcmepdamemnbkaaDoor
namespace Go.Proofs.YtcmepdamemnbkaaDoor
open Go.RowKit Go.Proofs.YtcmepdamemnbkaaDoorW.PrintWords
set_option linter.unusedVariables false
set_option linter.unusedSimpArgs false
theorem lexF_irrefl : ∀ a : List Int, lexF a a = false
  | [] => rfl
  | x :: a => by rw [lexF, if_pos rfl]; exact lexF_irrefl a
theorem lexF_tri : ∀ a b : List Int, a.length = b.length → lexF a b = false → lexF b a = false → a = b
  | [], [], _, _, _ => rfl
  | [], _ :: _, h, _, _ => by simp at h
  | _ :: _, [], h, _, _ => by simp at h
  | x :: a, y :: b, h, h1, h2 => by
    rw [lexF] at h1 h2
    by_cases e : x = y
    · subst e
      rw [if_pos rfl] at h1 h2
      rw [lexF_tri a b (by simpa using h) h1 h2]
    · rw [if_neg e] at h1
      rw [if_neg (fun q => e q.symm)] at h2
      have := of_decide_eq_false h1
      have := of_decide_eq_false h2
      omega
theorem lexF_trans : ∀ a b c : List Int, lexF a b = true → lexF b c = true → lexF a c = true
  | [], _, _, h, _ => by simp [lexF] at h
  | _ :: _, [], _, h, _ => by simp [lexF] at h
  | _ :: _, _ :: _, [], _, h => by simp [lexF] at h
  | x :: a, y :: b, z :: c, h1, h2 => by
    rw [lexF] at h1 h2 ⊢
    by_cases e1 : x = y
    · subst e1
      rw [if_pos rfl] at h1
      by_cases e2 : x = z
      · subst e2
        rw [if_pos rfl] at h2 ⊢
        exact lexF_trans a b c h1 h2
      · rw [if_neg e2] at h2 ⊢
        exact h2
    · rw [if_neg e1] at h1
      have h1 := of_decide_eq_true h1
      by_cases e2 : y = z
      · subst e2
        rw [if_neg e1]
        exact decide_eq_true h1
      · rw [if_neg e2] at h2
        have h2 := of_decide_eq_true h2
        rw [if_neg (by omega)]
        exact decide_eq_true (by omega)
theorem aheadF_irrefl (a : List Int) : aheadF a a = false := by rw [aheadF, if_pos rfl, lexF_irrefl]
theorem aheadF_tri {a b : List Int} (h1 : aheadF a b = false) (h2 : aheadF b a = false) : a = b := by
  unfold aheadF at h1 h2
  by_cases e : a.length = b.length
  · rw [if_pos e] at h1
    rw [if_pos e.symm] at h2
    exact lexF_tri a b e h1 h2
  · rw [if_neg e] at h1
    rw [if_neg (fun q => e q.symm)] at h2
    have := of_decide_eq_false h1
    have := of_decide_eq_false h2
    omega
theorem aheadF_trans {a b c : List Int} (h1 : aheadF a b = true) (h2 : aheadF b c = true) : aheadF a c = true := by
  unfold aheadF at *
  by_cases e1 : a.length = b.length <;> by_cases e2 : b.length = c.length
  · rw [if_pos e1] at h1
    rw [if_pos e2] at h2
    rw [if_pos (e1.trans e2)]
    exact lexF_trans a b c h1 h2
  · rw [if_neg e2] at h2
    rw [if_neg (fun q => e2 (e1.symm.trans q))]
    have := of_decide_eq_true h2
    exact decide_eq_true (by omega)
  · rw [if_neg e1] at h1
    rw [if_neg (fun q => e1 (q.trans e2.symm))]
    have := of_decide_eq_true h1
    exact decide_eq_true (by omega)
  · rw [if_neg e1] at h1
    rw [if_neg e2] at h2
    have h3 := of_decide_eq_true h1
    have h4 := of_decide_eq_true h2
    rw [if_neg (by omega)]
    exact decide_eq_true (by omega)
/-- the least of the good lists, if there is one -/
structure Least (good : List Int → Prop) (best : List Int) (found : Prop) : Prop where
  none : ¬ found → best = [] ∧ ∀ y, ¬ good y
  is : found → good best ∧ ∀ y, good y → aheadF y best = false
theorem Least.eq {g g' : List Int → Prop} {b b' : List Int} {f f' : Prop} (h : Least g b f) (k : Least g' b' f') (hg : ∀ y, g y ↔ g' y) : b = b' := by
  by_cases hf : f
  · by_cases hf' : f'
    · obtain ⟨h1, h2⟩ := h.is hf
      obtain ⟨h3, h4⟩ := k.is hf'
      exact aheadF_tri (h4 _ ((hg _).1 h1)) (h2 _ ((hg _).2 h3))
    · exact absurd ((hg _).1 (h.is hf).1) ((k.none hf').2 _)
  · by_cases hf' : f'
    · exact absurd ((hg _).2 (k.is hf').1) ((h.none hf).2 _)
    · rw [(h.none hf).1, (k.none hf').1]
theorem Least.mono {g g' : List Int → Prop} {b : List Int} {f f' : Prop} (h : Least g b f) (hg : ∀ y, g y ↔ g' y) (hf : f ↔ f') : Least g' b f' :=
  ⟨fun q => ⟨(h.none (fun x => q (hf.1 x))).1, fun y hy => (h.none (fun x => q (hf.1 x))).2 y ((hg y).2 hy)⟩, fun q => ⟨(hg _).1 (h.is (hf.2 q)).1, fun y hy => (h.is (hf.2 q)).2 y ((hg y).2 hy)⟩⟩
theorem Least.start : Least (fun _ => False) [] False := ⟨fun _ => ⟨rfl, fun _ h => h⟩, fun h => h.elim⟩
/-- one list more: it is good and ahead (or the first): it takes the place -/
theorem Least.step {g : List Int → Prop} {b : List Int} {f : Prop} (h : Least g b f) (x : List Int) : (f → aheadF x b = true) → Least (fun y => g y ∨ y = x) x True := fun hx =>
  ⟨fun q => absurd trivial q, fun _ => ⟨.inr rfl, fun y hy => by
    rcases hy with hy | rfl
    · by_cases hf : f
      · obtain ⟨h1, h2⟩ := h.is hf
        cases h3 : aheadF y x with
        | false => rfl
        | true =>
          have h4 := aheadF_trans h3 (hx hf)
          rw [h2 y hy] at h4
          cases h4
      · exact absurd hy ((h.none hf).2 y)
    · exact aheadF_irrefl _⟩⟩
/-- it is good and not ahead: what was best stays -/
theorem Least.stay {g : List Int → Prop} {b : List Int} {f : Prop} (h : Least g b f) (x : List Int) (hf : f) (hx : aheadF x b = false) : Least (fun y => g y ∨ y = x) b f :=
  ⟨fun q => absurd hf q, fun _ => ⟨.inl (h.is hf).1, fun y hy => by
    rcases hy with hy | rfl
    · exact (h.is hf).2 y hy
    · exact hx⟩⟩
/-- the reference's search -/
theorem least_ref (c : Nat → Bool) (row : Nat → List Int) (hne : ∀ k, c k = true → row k ≠ []) : ∀ m, Least (fun y => ∃ k, k < m ∧ c k = true ∧ y = row k)
    ((List.range m).foldl (fun best k => if c k && (decide ((best.length : Int) = 0) || aheadF (row k) best) then row k else best) []) (∃ k, k < m ∧ c k = true)
  | 0 => Least.start.mono (fun y => by simp) (by simp)
  | m + 1 => by
    have ih := least_ref c row hne m
    rw [List.range_succ, List.foldl_append, List.foldl_cons, List.foldl_nil]
    generalize (List.range m).foldl (fun best k => if c k && (decide ((best.length : Int) = 0) || aheadF (row k) best) then row k else best) [] = b at *
    have hg : ∀ y, ((∃ k, k < m ∧ c k = true ∧ y = row k) ∨ (c m = true ∧ y = row m)) ↔ ∃ k, k < m + 1 ∧ c k = true ∧ y = row k := fun y => by
      constructor
      · rintro (⟨k, h1, h2⟩ | h)
        · exact ⟨k, by omega, h2⟩
        · exact ⟨m, by omega, h⟩
      · rintro ⟨k, h1, h2⟩
        by_cases e : k = m
        · subst e; exact .inr h2
        · exact .inl ⟨k, by omega, h2⟩
    have hf : ((∃ k, k < m ∧ c k = true) ∨ c m = true) ↔ ∃ k, k < m + 1 ∧ c k = true := by
      constructor
      · rintro (⟨k, h1, h2⟩ | h)
        · exact ⟨k, by omega, h2⟩
        · exact ⟨m, by omega, h⟩
      · rintro ⟨k, h1, h2⟩
        by_cases e : k = m
        · subst e; exact .inr h2
        · exact .inl ⟨k, by omega, h2⟩
    cases hc : c m
    · rw [Bool.false_and, if_neg (by simp)]
      exact ih.mono (fun y => by rw [← hg]; simp [hc]) (by rw [← hf]; simp [hc])
    · rw [Bool.true_and]
      by_cases hfm : ∃ k, k < m ∧ c k = true
      · obtain ⟨h1, h2⟩ := ih.is hfm
        have hb0 : decide ((b.length : Int) = 0) = false := by
          obtain ⟨k, _, h3, h4⟩ := h1
          have := hne k h3
          rw [← h4] at this
          exact decide_eq_false fun q => this (List.eq_nil_of_length_eq_zero (by omega))
        rw [hb0, Bool.false_or]
        cases ha : aheadF (row m) b
        · rw [if_neg (by simp)]
          exact (ih.stay (row m) hfm ha).mono (fun y => by rw [← hg]; simp [hc]) (by rw [← hf]; simp [hfm])
        · rw [if_pos rfl]
          exact (ih.step (row m) (fun _ => ha)).mono (fun y => by rw [← hg]; simp [hc]) (by rw [← hf]; simp [hc])
      · rw [(ih.none hfm).1]
        simp only [List.length_nil, Int.ofNat_zero, decide_true, Bool.true_or, if_true]
        exact (ih.step (row m) (fun q => absurd q hfm)).mono (fun y => by rw [← hg]; simp [hc]) (by rw [← hf]; simp [hc])
/-- trust's search -/
def fewStep (row : Nat → List Int) (p : List Int → Bool) (s : List Int × Bool) (k : Nat) : List Int × Bool := if s.2 && !aheadF (row k) s.1 then s else if p (row k) then (row k, true) else s
theorem least_few (row : Nat → List Int) (p : List Int → Bool) : ∀ m, Least (fun y => ∃ k, k < m ∧ p (row k) = true ∧ y = row k) ((List.range m).foldl (fewStep row p) ([], false)).1 (((List.range m).foldl (fewStep row p) ([], false)).2 = true)
  | 0 => Least.start.mono (fun y => by simp) (by simp)
  | m + 1 => by
    have ih := least_few row p m
    rw [List.range_succ, List.foldl_append, List.foldl_cons, List.foldl_nil]
    generalize (List.range m).foldl (fewStep row p) ([], false) = s at *
    obtain ⟨b, f⟩ := s
    simp only at ih
    have hg : ∀ y, ((∃ k, k < m ∧ p (row k) = true ∧ y = row k) ∨ (p (row m) = true ∧ y = row m)) ↔ ∃ k, k < m + 1 ∧ p (row k) = true ∧ y = row k := fun y => by
      constructor
      · rintro (⟨k, h1, h2⟩ | h)
        · exact ⟨k, by omega, h2⟩
        · exact ⟨m, by omega, h⟩
      · rintro ⟨k, h1, h2⟩
        by_cases e : k = m
        · subst e; exact .inr h2
        · exact .inl ⟨k, by omega, h2⟩
    unfold fewStep
    simp only
    cases hf : f && !aheadF (row m) b
    · rw [if_neg (by simp)]
      cases hp : p (row m)
      · rw [if_neg (by simp)]
        exact ih.mono (fun y => by rw [← hg]; simp [hp]) Iff.rfl
      · rw [if_pos rfl]
        refine (ih.step (row m) (fun q => ?_)).mono (fun y => by rw [← hg]; simp [hp]) (by simp)
        rw [q, Bool.true_and, Bool.not_eq_false'] at hf
        exact hf
    · rw [if_pos rfl]
      simp only [Bool.and_eq_true, Bool.not_eq_true'] at hf
      cases hp : p (row m)
      · exact ih.mono (fun y => by rw [← hg]; simp [hp]) Iff.rfl
      · exact (ih.stay (row m) hf.1 hf.2).mono (fun y => by rw [← hg]; simp [hp]) Iff.rfl
end Go.Proofs.YtcmepdamemnbkaaDoor
namespace Go.Proofs.YtcmepdamemnbkaaDoor
open Go.RowKit Go.Proofs.YtcmepdamemnbkaaDoorW.PrintWords
set_option linter.unusedVariables false
set_option linter.unusedSimpArgs false
def subM (xs : List Int) (k : Nat) : List Int := ((List.range xs.length).filter (bitB k)).map fun i => xs.getD i 0
theorem bitB_zero (k : Nat) : bitB k 0 = decide (k % 2 = 1) := by
  simp only [bitB, Nat.pow_zero, Nat.div_one]
  rw [decide_eq_decide]
  omega
theorem bitB_succ (k i : Nat) : bitB k (i + 1) = bitB (k / 2) i := by
  simp only [bitB]
  rw [Nat.pow_succ, Nat.mul_comm, Nat.div_div_eq_div_mul]
theorem subM_cons (x : Int) (xs : List Int) (k : Nat) : subM (x :: xs) k = (if k % 2 = 1 then [x] else []) ++ subM xs (k / 2) := by
  unfold subM
  rw [List.length_cons, List.range_succ_eq_map, List.filter_cons, bitB_zero]
  have h : ((List.map Nat.succ (List.range xs.length)).filter (bitB k)).map (fun i => (x :: xs).getD i 0) = ((List.range xs.length).filter (bitB (k / 2))).map fun i => xs.getD i 0 := by
    rw [List.filter_map, List.map_map]
    congr 1
    refine List.filter_congr fun i _ => ?_
    exact bitB_succ k i
  by_cases e : k % 2 = 1
  · rw [if_pos (by simpa using e), if_pos e, List.map_cons, h]
    simp
  · rw [if_neg (by simpa using e), if_neg e, h]
    rfl
theorem subM_sub : ∀ (xs : List Int) (k : Nat), (subM xs k).Sublist xs
  | [], k => by simp [subM]
  | x :: xs, k => by
    rw [subM_cons]
    by_cases e : k % 2 = 1
    · rw [if_pos e]; exact (subM_sub xs _).cons_cons x
    · rw [if_neg e]; exact (subM_sub xs _).cons x
theorem subM_all {ys xs : List Int} (h : ys.Sublist xs) : ∃ k, k < 2 ^ xs.length ∧ subM xs k = ys := by
  induction h with
  | slnil => exact ⟨0, by simp, rfl⟩
  | cons x _ ih =>
    obtain ⟨k, h1, h2⟩ := ih
    refine ⟨2 * k, by rw [List.length_cons, Nat.pow_succ]; omega, ?_⟩
    rw [subM_cons, if_neg (by omega), show 2 * k / 2 = k by omega, h2]
    rfl
  | cons_cons x _ ih =>
    obtain ⟨k, h1, h2⟩ := ih
    refine ⟨2 * k + 1, by rw [List.length_cons, Nat.pow_succ]; omega, ?_⟩
    rw [subM_cons, if_pos (by omega), show (2 * k + 1) / 2 = k by omega, h2]
    rfl
theorem subM_lt (xs : List Int) (p : List Int → Bool) (y : List Int) : (∃ k, k < 2 ^ xs.length ∧ p (subM xs k) = true ∧ y = subM xs k) ↔ y.Sublist xs ∧ p y = true := by
  constructor
  · rintro ⟨k, _, h1, rfl⟩
    exact ⟨subM_sub xs k, h1⟩
  · rintro ⟨h1, h2⟩
    obtain ⟨k, h3, h4⟩ := subM_all h1
    exact ⟨k, h3, by rw [h4]; exact h2, h4.symm⟩
def idsL (r : List RecT) : List Int := r.map fun x => x.f0
theorem idsL_at {r : List RecT} {i : Nat} (h : i < r.length) : (idsL r).getD i 0 = idAt r i := by
  simp [idsL, idAt, List.getD_eq_getElem?_getD, List.getElem?_eq_getElem h]
theorem idsL_mem {r : List RecT} {n : Int} : n ∈ idsL r ↔ ∃ i, i < r.length ∧ idAt r i = n := by
  rw [← knownF_iff, knownF, List.any_eq_true, idsL, List.mem_map]
  constructor
  · rintro ⟨x, h1, h2⟩; exact ⟨x, h1, by simpa using h2⟩
  · rintro ⟨x, h1, h2⟩; exact ⟨x, h1, by simpa using h2⟩
theorem idsL_nodup : ∀ {r : List RecT}, SortedIds r → (idsL r).Nodup
  | [], _ => List.nodup_nil
  | x :: r, hs => by
    have hs2 : SortedIds r := fun j hj => by
      have := hs (j + 1) (by simpa using hj)
      simpa [idAt] using this
    rw [idsL, List.map_cons, List.nodup_cons]
    refine ⟨fun hm => ?_, idsL_nodup hs2⟩
    obtain ⟨i, hi, e⟩ := idsL_mem.1 hm
    have := sorted_inj hs (i := i + 1) (j := 0) (by simpa using hi) (by simp) (by simpa [idAt] using e)
    omega
theorem idsF_filter (r : List RecT) (p : Int → Bool) : idsF r p = (idsL r).filter p := by
  rw [idsF, idsL, List.filter_map]
  rfl
theorem selM_sub (r : List RecT) (k : Nat) : selM r k = subM (idsL r) k := by
  rw [selM, subM, show (idsL r).length = r.length by simp [idsL]]
  refine List.map_congr_left fun i hi => ?_
  exact (idsL_at (List.mem_range.1 (List.mem_filter.1 hi).1)).symm
theorem filter_sub {ys xs : List Int} (h : ys.Sublist xs) (hn : xs.Nodup) : xs.filter (fun n => decide (n ∈ ys)) = ys := by
  induction h with
  | slnil => rfl
  | cons x h ih =>
    rw [List.nodup_cons] at hn
    rw [List.filter_cons, if_neg (by simp; exact fun q => hn.1 (h.subset q))]
    exact ih hn.2
  | cons_cons x h ih =>
    rename_i l1 l2
    rw [List.nodup_cons] at hn
    rw [List.filter_cons, if_pos (by simp)]
    congr 1
    refine Eq.trans (List.filter_congr fun n hnm => ?_) (ih hn.2)
    rw [decide_eq_decide, List.mem_cons]
    exact ⟨fun q => q.resolve_left (fun e => hn.1 (e ▸ hnm)), .inr⟩
theorem sub_of_subset {ys zs xs : List Int} (hy : ys.Sublist xs) (hz : zs.Sublist xs) (hn : xs.Nodup) (h : ∀ n ∈ ys, n ∈ zs) : ys.Sublist zs := by
  rw [← filter_sub hy hn, ← filter_sub hz hn]
  have : xs.filter (fun n => decide (n ∈ ys)) = (xs.filter fun n => decide (n ∈ zs)).filter fun n => decide (n ∈ ys) := by
    rw [List.filter_filter]
    refine List.filter_congr fun n _ => ?_
    by_cases e : n ∈ ys
    · simp [e, h n e]
    · simp [e]
  rw [this]
  exact List.filter_sublist
theorem holdsF_sub {r : List RecT} (hs : SortedIds r) (G : List Int) : (holdsF r G).Sublist (idsL r) := by
  rw [← ids_holds hs G, idsF_filter]
  exact List.filter_sublist
theorem ids_sel {r : List RecT} (hs : SortedIds r) {y : List Int} (h : y.Sublist (idsL r)) : idsF r (fun n => decide (n ∈ y)) = y := by
  rw [idsF_filter, filter_sub h (idsL_nodup hs)]
theorem okI_iff {r : List RecT} (hs : SortedIds r) (H : List Int) {at_ : Nat} (ha : at_ < r.length) (k : Nat) : okI r H at_ k r.length = true ↔ idAt r at_ ∈ selM r k ∧ ∀ n ∈ selM r k, n ∈ H := by
  rw [okI, Bool.and_eq_true, ← selM_iff hs ha, List.all_eq_true]
  refine and_congr_right fun _ => ?_
  constructor
  · intro h n hn
    simp only [selM, List.mem_map, List.mem_filter] at hn
    obtain ⟨j, ⟨h1, h2⟩, rfl⟩ := hn
    have := h j h1
    simpa [h2] using this
  · intro h j hj
    cases hb : bitB k j
    · rfl
    · have := h (idAt r j) ((selM_iff hs (List.mem_range.1 hj)).2 hb)
      simpa using this
theorem okC_iff {r : List RecT} (hs : SortedIds r) (G : List Int) (k : Nat) : okC r G k r.length = true ↔ ∀ n ∈ selM r k, n ∈ G := by
  rw [okC, List.all_eq_true]
  constructor
  · intro h n hn
    simp only [selM, List.mem_map, List.mem_filter] at hn
    obtain ⟨j, ⟨h1, h2⟩, rfl⟩ := hn
    have := h j h1
    simpa [h2] using this
  · intro h j hj
    cases hb : bitB k j
    · rfl
    · have := h (idAt r j) ((selM_iff hs (List.mem_range.1 hj)).2 hb)
      simpa using this
theorem holdsF_not_gone {r : List RecT} (hs : SortedIds r) {G : List Int} {n : Int} (h : n ∈ holdsF r G) : n ∉ G := by
  obtain ⟨i, hi, rfl⟩ := holdsL_mem r [] n h
  obtain ⟨bs, h1, _⟩ := hold_at hs G i hi
  rw [decide_eq_true h] at h1
  intro q
  simp [q] at h1
/-- a set carries itself just if as many hold without the others -/
theorem carries_len {r : List RecT} (hs : SortedIds r) {y : List Int} (hy : y.Sublist (idsL r)) : carriesF r y = true ↔ (holdsF r (compl r y)).length = y.length := by
  have hKy : (holdsF r (compl r y)).Sublist y := sub_of_subset (holdsF_sub hs _) hy (idsL_nodup hs) fun n hn => by
    have h1 := holdsF_not_gone hs hn
    obtain ⟨i, hi, rfl⟩ := holdsL_mem r [] n hn
    rw [compl_mem hi] at h1
    exact Classical.byContradiction h1
  constructor
  · intro h
    rw [carriesF, List.all_eq_true] at h
    have h2 : y.Sublist (holdsF r (compl r y)) := sub_of_subset hy (holdsF_sub hs _) (idsL_nodup hs) fun n hn => by
      obtain ⟨i, hi, rfl⟩ := idsL_mem.1 (hy.subset hn)
      have := h i (List.mem_range.2 hi)
      simpa [hn] using this
    exact Nat.le_antisymm hKy.length_le h2.length_le
  · intro h
    have h2 := hKy.eq_of_length h
    rw [carriesF, List.all_eq_true]
    intro i _
    rw [h2]
    cases decide (idAt r i ∈ y) <;> rfl
def fewestF (xs : List Int) (p : List Int → Bool) : List Int := ((List.range (2 ^ xs.length)).foldl (fewStep (subM xs) p) ([], false)).1
/-- what a record rests on -/
theorem rests_eq {r : List RecT} (hs : SortedIds r) (G : List Int) {at_ : Nat} (ha : at_ < r.length) :
    fewestF (holdsF r G) (fun y => decide (idAt r at_ ∈ y) && decide ((holdsF r (compl r y)).length = y.length)) = restsBest r (holdsF r G) at_ (2 ^ r.length) := by
  have h1 := least_few (subM (holdsF r G)) (fun y => decide (idAt r at_ ∈ y) && decide ((holdsF r (compl r y)).length = y.length)) (2 ^ (holdsF r G).length)
  have hne : ∀ k, (okI r (holdsF r G) at_ k r.length && carriesF r (selM r k)) = true → idsF r (fun n => decide (n ∈ selM r k)) ≠ [] := fun k hk => by
    rw [Bool.and_eq_true, okI_iff hs _ ha] at hk
    rw [ids_sel hs (by rw [selM_sub]; exact subM_sub _ _)]
    exact List.ne_nil_of_mem hk.1.1
  have h2 := least_ref (fun k => okI r (holdsF r G) at_ k r.length && carriesF r (selM r k)) (fun k => idsF r fun n => decide (n ∈ selM r k)) hne (2 ^ r.length)
  refine h1.eq h2 fun y => (subM_lt (holdsF r G) (fun y => decide (idAt r at_ ∈ y) && decide ((holdsF r (compl r y)).length = y.length)) y).trans ?_
  have hlen : (idsL r).length = r.length := by simp [idsL]
  constructor
  · rintro ⟨h3, h4⟩
    have h5 := h3.trans (holdsF_sub hs G)
    obtain ⟨k, h6, h7⟩ := subM_all h5
    rw [hlen] at h6
    rw [Bool.and_eq_true, decide_eq_true_eq, decide_eq_true_eq] at h4
    refine ⟨k, h6, ?_, ?_⟩
    · rw [Bool.and_eq_true, okI_iff hs _ ha, selM_sub, h7]
      exact ⟨⟨h4.1, fun n hn => h3.subset hn⟩, (carries_len hs h5).2 h4.2⟩
    · rw [selM_sub, h7, ids_sel hs h5]
  · rintro ⟨k, h3, h4, rfl⟩
    have h5 : (selM r k).Sublist (idsL r) := by rw [selM_sub]; exact subM_sub _ _
    rw [Bool.and_eq_true, okI_iff hs _ ha] at h4
    rw [ids_sel hs h5]
    refine ⟨sub_of_subset h5 (holdsF_sub hs G) (idsL_nodup hs) h4.1.2, ?_⟩
    rw [Bool.and_eq_true, decide_eq_true_eq, decide_eq_true_eq]
    exact ⟨h4.1.1, (carries_len hs h5).1 h4.2⟩
/-- causes -/
theorem causes_eq {r : List RecT} (hs : SortedIds r) {G : List Int} (hG : G.Sublist (idsL r)) {at_ : Nat} (ha : at_ < r.length) (hno : idAt r at_ ∉ holdsF r G) :
    fewestF G (fun y => decide (idAt r at_ ∈ holdsF r (diffF G y))) = causesBest r G at_ (2 ^ r.length) := by
  have h1 := least_few (subM G) (fun y => decide (idAt r at_ ∈ holdsF r (diffF G y))) (2 ^ G.length)
  have hne : ∀ k, (okC r G k r.length && decide (idAt r at_ ∈ holdsF r (diffF G (selM r k)))) = true → idsF r (fun n => decide (n ∈ selM r k)) ≠ [] := fun k hk q => by
    rw [ids_sel hs (by rw [selM_sub]; exact subM_sub _ _)] at q
    rw [Bool.and_eq_true, decide_eq_true_eq, q] at hk
    have : diffF G [] = G := by simp [diffF]
    rw [this] at hk
    exact hno hk.2
  have h2 := least_ref (fun k => okC r G k r.length && decide (idAt r at_ ∈ holdsF r (diffF G (selM r k)))) (fun k => idsF r fun n => decide (n ∈ selM r k)) hne (2 ^ r.length)
  refine h1.eq h2 fun y => (subM_lt G (fun y => decide (idAt r at_ ∈ holdsF r (diffF G y))) y).trans ?_
  have hlen : (idsL r).length = r.length := by simp [idsL]
  constructor
  · rintro ⟨h3, h4⟩
    have h5 := h3.trans hG
    obtain ⟨k, h6, h7⟩ := subM_all h5
    rw [hlen] at h6
    refine ⟨k, h6, ?_, ?_⟩
    · rw [Bool.and_eq_true, okC_iff hs, selM_sub, h7]
      exact ⟨fun n hn => h3.subset hn, h4⟩
    · rw [selM_sub, h7, ids_sel hs h5]
  · rintro ⟨k, h3, h4, rfl⟩
    have h5 : (selM r k).Sublist (idsL r) := by rw [selM_sub]; exact subM_sub _ _
    rw [Bool.and_eq_true, okC_iff hs] at h4
    rw [ids_sel hs h5]
    exact ⟨sub_of_subset h5 hG (idsL_nodup hs) h4.1, h4.2⟩
end Go.Proofs.YtcmepdamemnbkaaDoor
namespace Go.Proofs.YtcmepdamemnbkaaDoor
open Go.RowKit Go.Proofs.YtcmepdamemnbkaaDoorW.PrintWords
set_option linter.unusedVariables false
set_option linter.unusedSimpArgs false
/-- a closure over sets that answers p -/
def AsksM (P : Program) (w : World) (g : Nat) (cs : List Value) (p : List Int → Bool) : Prop :=
  ∀ (S : List Int) (M : Nat) (W : World), Below w.heap.size w W → w.heap.size ≤ M → IMap W M (setV S) → S.Nodup → Calls P g ([Value.map (some M)] ++ cs).toArray W fun e W' => e = .returned (.bool (p S)) ∧ Below W.heap.size W W'
def subK (xs : List Int) (k i : Nat) : List Int := ((List.range i).filter (bitB k)).map fun j => xs.getD j 0
theorem subK_full (xs : List Int) (k : Nat) : subK xs k xs.length = subM xs k := rfl
theorem subK_succ {xs : List Int} (hn : xs.Nodup) (k i : Nat) (hi : i < xs.length) : subK xs k (i + 1) = if bitB k i then insN (xs.getD i 0) (subK xs k i) else subK xs k i := by
  unfold subK
  rw [List.range_succ, List.filter_append, List.map_append]
  by_cases h : bitB k i = true
  · rw [if_pos h, List.filter_cons, if_pos h, insN, if_neg]
    · rfl
    · intro hm
      obtain ⟨j, hj, e⟩ := List.mem_map.1 hm
      have hj := List.mem_range.1 (List.mem_filter.1 hj).1
      have h1 : xs.getD j 0 = xs[j] := by simp [List.getD_eq_getElem?_getD, List.getElem?_eq_getElem (by omega : j < xs.length)]
      have h2 : xs.getD i 0 = xs[i] := by simp [List.getD_eq_getElem?_getD, List.getElem?_eq_getElem hi]
      rw [h1, h2] at e
      rw [List.nodup_iff_pairwise_ne, List.pairwise_iff_getElem] at hn
      exact hn j i (by omega) hi hj e
  · rw [if_neg h, List.filter_cons, if_neg h]
    simp
theorem sortF_id {xs : List Int} (h : xs.Pairwise fun a b => decide (a ≤ b) = true) : sortF xs = xs := by
  have tr : ∀ a b c : Int, decide (a ≤ b) = true → decide (b ≤ c) = true → decide (a ≤ c) = true := fun a b c h1 h2 => by simp at *; omega
  have tot : ∀ a b : Int, (decide (a ≤ b) || decide (b ≤ a)) = true := fun a b => by simp; omega
  refine List.Perm.eq_of_pairwise (le := fun a b => decide (a ≤ b) = true) (fun a b _ _ h1 h2 => ?_) (List.pairwise_mergeSort tr tot xs) h (List.mergeSort_perm xs _)
  simp only [decide_eq_true_eq] at h1 h2
  omega
theorem sortF_sub {xs : List Int} (h : xs.Pairwise fun a b => decide (a ≤ b) = true) (k : Nat) : sortF (subM xs k) = subM xs k := sortF_id (h.sublist (subM_sub xs k))
end Go.Proofs.YtcmepdamemnbkaaDoor
namespace Go.Proofs.YtcmepdamemnbkaaDoor
open Go.RowKit Go.Proofs.YtcmepdamemnbkaaDoorW.PrintWords
set_option linter.unusedVariables false
set_option linter.unusedSimpArgs false
theorem cmpRows {w0 w : World} {X : Nat → Prop} {η : Hp} (hw : WOK w0 X η w) {rr rr2 : RowR} {xs ys : List Int} (hl : xs.length ≤ 1000000) (he : xs.length = ys.length) (h1 : RowAt 3 0 w rr xs) (h2 : RowAt 3 0 w rr2 ys) :
    Calls Tryd.prog 76 ([] ++ [valR rr xs.length, valR rr2 ys.length] ++ []).toArray w fun e w' => e = .returned (.int .i64 (cmpF xs ys)) ∧ Below w.heap.size w w' := by
  obtain ⟨A, c, e1, _, hA⟩ := h1.C (by omega)
  obtain ⟨B, c2, e2, _, hB⟩ := h2.C (by omega)
  rw [e1, e2]
  exact compare_calls A B c c2 xs ys w hA hB he
theorem few_skip (a b : List Int) : (!aheadF a b) = (bif decide ((b.length : Int) < (a.length : Int)) then true else bif decide ((a.length : Int) = (b.length : Int)) then decide (0 ≤ cmpF a b) else false) := by
  unfold aheadF
  by_cases h1 : a.length = b.length
  · rw [if_pos h1, decide_eq_false (by omega), decide_eq_true (by omega : (a.length : Int) = (b.length : Int)), cmpF_lex]
    rfl
  · rw [if_neg h1, decide_eq_false (by omega : ¬ (a.length : Int) = (b.length : Int))]
    by_cases h2 : a.length < b.length
    · rw [decide_eq_true h2, decide_eq_false (by omega)]; rfl
    · rw [decide_eq_false h2, decide_eq_true (by omega)]; rfl
theorem few_len (xs : List Int) (p : List Int → Bool) : ∀ m, ((List.range m).foldl (fewStep (subM xs) p) ([], false)).1.length ≤ xs.length
  | 0 => by simp
  | m + 1 => by
    rw [List.range_succ, List.foldl_append, List.foldl_cons, List.foldl_nil, fewStep]
    split
    · exact few_len xs p m
    · split
      · exact (subM_sub xs m).length_le
      · exact few_len xs p m
set_option maxHeartbeats 16000000 in
theorem fewest_calls (p : List Int → Bool) (g : Nat) (cs : List Value) (eg : ∀ args w, (callFunc g args).run Tryd.prog w = .ok (.enter g args) w) (A : Option Addr) (c : Nat) (xs : List Int) (w : World) (hr : Kd.C (Kd.int .i64) w A xs.length xs) (hp : AsksM Tryd.prog w g cs p)
    (hn : xs.Nodup) (hs : xs.Pairwise fun a b => decide (a ≤ b) = true) (hlen : xs.length ≤ 12) :
    Calls Tryd.prog 61 #[.slice A xs.length c, .func (.func g) #[] cs.toArray] w fun e w' => ∃ rr : RowR, e = .returned (valR rr (fewestF xs p).length) ∧ RowAt 3 w.heap.size w' rr (fewestF xs p) ∧ Below w.heap.size w w' := by
  have h2n : 2 ^ xs.length ≤ 4096 := Nat.le_trans (Nat.pow_le_pow_right (by omega) hlen) (by decide)
  refine x_calls (X := XNone) Tryd.func61 rfl rfl rfl ?_
  with_reducible repeat refine xc_seq ?_
  with_reducible refine xc_region ?_
  refine xo_asg rfl rfl rfl ?_
  with_reducible refine xo_nil ?_
  with_reducible repeat (first | refine xq_then ?_ | refine xq_blockN ?_ | refine xq_scopeN ?_)
  with_reducible repeat refine xc_seq ?_
  with_reducible refine xc_region ?_
  refine xo_asg rfl rfl rfl ?_
  with_reducible refine xo_nil ?_
  with_reducible repeat (first | refine xq_then ?_ | refine xq_blockN ?_ | refine xq_scopeN ?_)
  with_reducible repeat refine xc_seq ?_
  with_reducible refine xc_region ?_
  refine xo_asg rfl rfl rfl ?_
  with_reducible refine xo_nil ?_
  with_reducible repeat (first | refine xq_then ?_ | refine xq_blockN ?_ | refine xq_scopeN ?_)
  with_reducible repeat refine xc_seq ?_
  with_reducible refine xc_region ?_
  refine xo_mv rfl rfl rfl ?_
  refine xo_len T_ rfl rfl rfl rfl ?_
  refine xo_shl1 rfl rfl rfl (by omega) rfl ?_
  refine xo_mv rfl rfl rfl ?_
  with_reducible refine xo_nil ?_
  with_reducible repeat (first | refine xq_then ?_ | refine xq_blockN ?_ | refine xq_scopeN ?_)
  with_reducible repeat refine xc_seq ?_
  with_reducible refine xc_block ?_
  refine xc_loop (γ := Nat × RowR) (fun q => q.1 ≤ 2 ^ xs.length ∧ (q.2 = none → ((List.range q.1).foldl (fewStep (subM xs) p) ([], false)).1 = [])) (fun q => [(0, .slice A xs.length c), (1, .func (.func g) #[] cs.toArray), (5, valR q.2 ((List.range q.1).foldl (fewStep (subM xs) p) ([], false)).1.length), (6, .bool ((List.range q.1).foldl (fewStep (subM xs) p) ([], false)).2), (14, .int .i64 ((2 ^ xs.length : Nat) : Int)), (15, .int .i64 (q.1 : Int))])
    (fun q => hpR 3 1 q.2 ((List.range q.1).foldl (fewStep (subM xs) p) ([], false)).1.length (((List.range q.1).foldl (fewStep (subM xs) p) ([], false)).1.map (.int .i64)) ++ []) (fun q => 2 ^ xs.length - q.1) (0, none) ⟨Nat.zero_le _, fun _ => rfl⟩ ⟨rfl, rfl, rfl, rfl, rfl, rfl, trivial⟩ (List.nil_sublist _) ?_
  rintro ⟨m, rr⟩ ⟨hm1, hrr⟩
  simp only at hm1 hrr ⊢
  have hstep : (List.range (m + 1)).foldl (fewStep (subM xs) p) ([], false) = fewStep (subM xs) p ((List.range m).foldl (fewStep (subM xs) p) ([], false)) m := by rw [List.range_succ, List.foldl_append]; rfl
  with_reducible repeat refine xc_seq ?_
  with_reducible refine xc_region ?_
  refine xo_lss rfl rfl rfl rfl ?_
  with_reducible refine xo_nil ?_
  with_reducible repeat (first | refine xq_then ?_ | refine xq_blockN ?_ | refine xq_scopeN ?_)
  with_reducible repeat refine xc_seq ?_
  refine xc_cond rfl (fun h => ?_) (fun h => ?_)
  · have hlt : m < 2 ^ xs.length := by have := of_decide_eq_true h; omega
    have hbl := few_len xs p m
    generalize (List.range m).foldl (fewStep (subM xs) p) ([], false) = st at *
    obtain ⟨best, f⟩ := st
    simp only at hbl hrr hstep ⊢
    with_reducible refine xc_skip ?_
    with_reducible repeat (first | refine xq_then ?_ | refine xq_blockN ?_ | refine xq_scopeN ?_)
    with_reducible repeat refine xc_seq ?_
    with_reducible refine xc_block ?_
    with_reducible repeat refine xc_seq ?_
    with_reducible refine xc_region ?_
    refine xo_mv rfl rfl rfl ?_
    refine xo_asg rfl rfl rfl ?_
    with_reducible refine xo_nil ?_
    with_reducible repeat (first | refine xq_then ?_ | refine xq_blockN ?_ | refine xq_scopeN ?_)
    with_reducible repeat refine xc_seq ?_
    with_reducible refine xc_region ?_
    refine xo_mkm rfl rfl (fun b18 => ?_)
    refine xo_asg rfl rfl rfl ?_
    with_reducible refine xo_nil ?_
    with_reducible repeat (first | refine xq_then ?_ | refine xq_blockN ?_ | refine xq_scopeN ?_)
    with_reducible repeat refine xc_seq ?_
    with_reducible refine xc_region ?_
    refine xo_mv rfl rfl rfl ?_
    refine xo_len T_ rfl rfl rfl rfl ?_
    refine xo_mv rfl rfl rfl ?_
    with_reducible refine xo_nil ?_
    with_reducible repeat (first | refine xq_then ?_ | refine xq_blockN ?_ | refine xq_scopeN ?_)
    with_reducible repeat refine xc_seq ?_
    with_reducible refine xc_block ?_
    refine xc_loop (γ := Nat) (fun i => i ≤ xs.length) (fun i => [(0, .slice A xs.length c), (1, .func (.func g) #[] cs.toArray), (5, valR rr best.length), (6, .bool f), (14, .int .i64 ((2 ^ xs.length : Nat) : Int)), (15, .int .i64 (m : Int)), (7, .int .i64 (m : Int)), (8, .map (some b18)), (19, .slice A xs.length c), (20, .int .i64 (xs.length : Int)), (21, .int .i64 (i : Int))])
      (fun i => (b18, true, hmap (setV (subK xs m i))) :: (hpR 3 1 rr best.length (best.map (.int .i64)) ++ [])) (fun i => xs.length - i) 0 (Nat.zero_le _) ⟨rfl, rfl, rfl, rfl, rfl, rfl, rfl, rfl, rfl, rfl, rfl, trivial⟩ (List.Sublist.refl _) ?_
    intro i hi
    with_reducible repeat refine xc_seq ?_
    with_reducible refine xc_region ?_
    refine xo_lss rfl rfl rfl rfl ?_
    with_reducible refine xo_nil ?_
    with_reducible repeat (first | refine xq_then ?_ | refine xq_blockN ?_ | refine xq_scopeN ?_)
    with_reducible repeat refine xc_seq ?_
    refine xc_cond rfl (fun h => ?_) (fun h => ?_)
    · have hil : i < xs.length := by have := of_decide_eq_true h; omega
      obtain ⟨ad, rfl, r1⟩ := int_at hr i hil
      have hsu := subK_succ hn m i hil
      with_reducible refine xc_skip ?_
      with_reducible repeat (first | refine xq_then ?_ | refine xq_blockN ?_ | refine xq_scopeN ?_)
      with_reducible repeat refine xc_seq ?_
      with_reducible refine xc_block ?_
      with_reducible repeat refine xc_seq ?_
      with_reducible refine xc_region ?_
      refine xo_mv rfl rfl rfl ?_
      refine xo_ia T_ rfl rfl rfl rfl rfl ⟨by omega, by omega⟩ rfl ?_
      refine xo_loadR0 T_ rfl rfl rfl (by first | assumption | exact RO.fld (by assumption) rfl) rfl ?_
      refine xo_asg rfl rfl rfl ?_
      refine xo_asg rfl rfl rfl ?_
      with_reducible refine xo_nil ?_
      with_reducible repeat (first | refine xq_then ?_ | refine xq_blockN ?_ | refine xq_scopeN ?_)
      with_reducible repeat refine xc_seq ?_
      with_reducible refine xc_region ?_
      refine xo_mv rfl rfl rfl ?_
      refine xo_mv rfl rfl rfl ?_
      refine xo_shr rfl rfl rfl (by omega) rfl ?_
      refine xo_and1 rfl rfl rfl (Nat.lt_of_le_of_lt (Nat.div_le_self _ _) (by omega)) rfl ?_
      refine xo_eql rfl rfl rfl rfl ?_
      with_reducible refine xo_nil ?_
      with_reducible repeat (first | refine xq_then ?_ | refine xq_blockN ?_ | refine xq_scopeN ?_)
      with_reducible repeat refine xc_seq ?_
      refine xc_cond rfl (fun hb => ?_) (fun hb => ?_)
      · have hb : bitB m i = true := hb
        rw [if_pos hb] at hsu
        with_reducible repeat refine xc_seq ?_
        with_reducible refine xc_region ?_
        refine xo_mv rfl rfl rfl ?_
        refine xo_mv rfl rfl rfl ?_
        refine xo_sins T_ rfl rfl rfl rfl rfl rfl (by repeat (first | exact List.Mem.head _ | apply List.Mem.tail | apply List.mem_append_right)) (by repeat (first | exact Upd.head | apply Upd.tail | apply Upd.app)) rfl ?_
        with_reducible refine xo_nil ?_
        with_reducible repeat (first | refine xq_then ?_ | refine xq_blockN ?_ | refine xq_scopeN ?_)
        with_reducible repeat refine xc_seq ?_
        with_reducible refine xc_region ?_
        refine xo_add rfl rfl rfl (by omega) rfl ?_
        refine xo_mv rfl rfl rfl ?_
        with_reducible refine xo_nil ?_
        with_reducible repeat (first | refine xq_then ?_ | refine xq_blockN ?_ | refine xq_scopeN ?_)
        exact xq_again _ _ _ _ _ (i + 1) (by omega) (by omega) ⟨rfl, rfl, rfl, rfl, rfl, rfl, rfl, rfl, rfl, rfl, rfl, trivial⟩ (by rw [hsu]; exact List.Sublist.refl _)
      · have hb : bitB m i = false := hb
        rw [hb, if_neg (by simp)] at hsu
        with_reducible refine xc_skip ?_
        with_reducible repeat (first | refine xq_then ?_ | refine xq_blockN ?_ | refine xq_scopeN ?_)
        with_reducible repeat refine xc_seq ?_
        with_reducible refine xc_region ?_
        refine xo_add rfl rfl rfl (by omega) rfl ?_
        refine xo_mv rfl rfl rfl ?_
        with_reducible refine xo_nil ?_
        with_reducible repeat (first | refine xq_then ?_ | refine xq_blockN ?_ | refine xq_scopeN ?_)
        exact xq_again _ _ _ _ _ (i + 1) (by omega) (by omega) ⟨rfl, rfl, rfl, rfl, rfl, rfl, rfl, rfl, rfl, rfl, rfl, trivial⟩ (by rw [hsu]; exact List.Sublist.refl _)
    · have hge : ¬ i < xs.length := by have := of_decide_eq_false h; omega
      have hii : i = xs.length := by omega
      subst hii
      rw [subK_full]
      have hrow := (subM_sub xs m).length_le
      have hsort := sortF_sub hs m
      have hnd : (subM xs m).Nodup := hn.sublist (subM_sub xs m)
      rw [fewStep] at hstep
      simp only at hstep
      with_reducible refine xc_exit ?_
      with_reducible repeat (first | refine xq_blockX ?_ | refine xq_thenE ?_ | refine xq_blockE rfl ?_ | refine xq_scopeE ?_)
      with_reducible repeat (first | refine xq_then ?_ | refine xq_blockN ?_ | refine xq_scopeN ?_)
      with_reducible repeat refine xc_seq ?_
      with_reducible refine xc_region ?_
      refine xo_mv rfl rfl rfl ?_
      refine xo_call (fs := []) (cs := []) rfl rfl rfl keys_enters rfl (fun w1 hw1 => (keys_calls b18 w1).mono ?_)
      rintro e w2 ⟨B, rfl, hB1, hB2, hb⟩
      refine ⟨_, _, rfl, hw1.more (φ := cel [.map (some b18)] 62) hb hB1 hB2 rfl, ?_⟩
      clear hB1 hB2 hb hw1
      refine xo_call (fs := []) (cs := []) rfl rfl rfl sorted_enters rfl (fun w1 hw1 => (sorted_calls 78 [.pointer (some ⟨B, 0, none⟩)] keysIter_enters (fun k => k = B ∨ k = b18) (subM xs m) (subM xs m).length w1 (iter_keys (subM xs m) b18 B w1 (hw1.obj (wr := true) (cs := [.map (some b18)]) (by repeat (first | exact List.Mem.head _ | apply List.Mem.tail | apply List.mem_append_right))) (hw1.imap (wr := true) (by repeat (first | exact List.Mem.head _ | apply List.Mem.tail | apply List.mem_append_right)))) (fun k hk => hk.elim (fun e => e ▸ hw1.lt (e := (B, true, cel [.map (some b18)] 62)) (by repeat (first | exact List.Mem.head _ | apply List.Mem.tail | apply List.mem_append_right))) (fun e => e ▸ hw1.lt (e := (b18, true, hmap (setV (subM xs m)))) (by repeat (first | exact List.Mem.head _ | apply List.Mem.tail | apply List.mem_append_right)))) (by omega) (by omega)).mono ?_)
      rintro e w2 ⟨r11, rfl, hrw, hb⟩
      rw [hsort] at hrw ⊢
      have h11 := hrw.1
      refine ⟨_, _, rfl, hw1.row hb hrw, ?_⟩
      clear hrw hb hw1
      refine xo_asg rfl rfl rfl ?_
      with_reducible refine xo_nil ?_
      with_reducible repeat (first | refine xq_then ?_ | refine xq_blockN ?_ | refine xq_scopeN ?_)
      with_reducible refine xc_seq ?_
      refine xc_cut (γ := Unit) (fun _ => True) (fun _ => [(0, .slice A xs.length c), (1, .func (.func g) #[] cs.toArray), (5, valR rr best.length), (6, .bool f), (14, .int .i64 ((2 ^ xs.length : Nat) : Int)), (15, .int .i64 (m : Int)), (8, .map (some b18)), (11, valR r11 (subM xs m).length), (57, .bool (f && !aheadF (subM xs m) best))])
        (fun _ => hpR 3 1 r11 (subM xs m).length ((subM xs m).map (.int .i64)) ++ ((b18, true, hmap (setV (subM xs m))) :: (hpR 3 1 rr best.length (best.map (.int .i64)) ++ []))) ?_ (fun _ _ => ?_)
      · cases hf : f <;> cases h43 : decide ((best.length : Int) < ((subM xs m).length : Int)) <;> cases h49 : decide (((subM xs m).length : Int) = (best.length : Int))
        all_goals
          try have h49' : (subM xs m).length = best.length := (by have := of_decide_eq_true h49; omega)
          with_reducible repeat refine xc_seq ?_
          with_reducible refine xc_region ?_
          refine xo_mv rfl rfl rfl ?_
          refine xo_mv rfl rfl rfl ?_
          first
            | refine xo_not rfl rfl ?_
            | (refine xo_mv rfl rfl rfl ?_)
          first
            | refine xo_not rfl rfl ?_
            | (refine xo_lenR T_ rfl rfl (fun h => by rw [h11 h]; rfl) rfl rfl ?_)
          first
            | refine xo_not rfl rfl ?_
            | (refine xo_mv rfl rfl rfl ?_)
          first
            | refine xo_not rfl rfl ?_
            | (refine xo_lenR T_ rfl rfl (fun h => by rw [hrr h]; rfl) rfl rfl ?_)
          first
            | refine xo_not rfl rfl ?_
            | (refine xo_gtr rfl rfl rfl rfl ?_)
          first | refine xo_as (i := 43) rfl (congrArg Value.bool h43) ?_ | skip
          first
            | refine xo_not rfl rfl ?_
            | (refine xo_mv rfl rfl rfl ?_)
          first
            | refine xo_not rfl rfl ?_
            | (refine xo_mv rfl rfl rfl ?_)
          first
            | refine xo_not rfl rfl ?_
            | (refine xo_lenR T_ rfl rfl (fun h => by rw [h11 h]; rfl) rfl rfl ?_)
          first
            | refine xo_not rfl rfl ?_
            | (refine xo_mv rfl rfl rfl ?_)
          first
            | refine xo_not rfl rfl ?_
            | (refine xo_lenR T_ rfl rfl (fun h => by rw [hrr h]; rfl) rfl rfl ?_)
          first
            | refine xo_not rfl rfl ?_
            | (refine xo_eql rfl rfl rfl rfl ?_)
          first | refine xo_as (i := 49) rfl (congrArg Value.bool h49) ?_ | skip
          first
            | refine xo_not rfl rfl ?_
            | (refine xo_mv rfl rfl rfl ?_)
          first
            | refine xo_not rfl rfl ?_
            | (refine xo_mv rfl rfl rfl ?_)
          first
            | refine xo_not rfl rfl ?_
            | (refine xo_mv rfl rfl rfl ?_)
          first
            | refine xo_not rfl rfl ?_
            | (refine xo_callB (fs := []) (cs := []) rfl rfl rfl compare_enters rfl (fun w1 hw1 => cmpRows hw1 (by omega) h49' (hw1.rowAt h11 (fun p hp => by subst hp; exact (by repeat (first | exact List.Mem.head _ | exact List.mem_append_left _ (List.Mem.head _) | apply List.mem_append_right | apply List.Mem.tail)))) (hw1.rowAt hrr (fun p hp => by subst hp; exact (by repeat (first | exact List.Mem.head _ | exact List.mem_append_left _ (List.Mem.head _) | apply List.mem_append_right | apply List.Mem.tail))))) ?_)
          first
            | refine xo_not rfl rfl ?_
            | (refine xo_geq rfl rfl rfl rfl ?_)
          first
            | refine xo_not rfl rfl ?_
            | (first | refine xo_pickT rfl rfl rfl rfl ?_ | refine xo_pickF rfl rfl rfl rfl ?_)
          first
            | refine xo_not rfl rfl ?_
            | (first | refine xo_pickT rfl rfl rfl rfl ?_ | refine xo_pickF rfl rfl rfl rfl ?_)
          first | refine xo_pickT rfl rfl rfl rfl ?_ | refine xo_pickF rfl rfl rfl rfl ?_
          with_reducible refine xo_nil ?_
          with_reducible repeat (first | refine xq_then ?_ | refine xq_blockN ?_ | refine xq_scopeN ?_)
          exact xq_meet _ _ _ () trivial ⟨rfl, rfl, rfl, rfl, rfl, rfl, rfl, rfl, by rw [few_skip, h43, h49]; rfl, trivial⟩ (List.Sublist.append (List.Sublist.refl _) (List.sublist_cons_self _ _))
      with_reducible repeat refine xc_seq ?_
      refine xc_cond rfl (fun hsk => ?_) (fun hsk => ?_)
      · rw [if_pos hsk] at hstep
        with_reducible refine xc_exit ?_
        with_reducible repeat (first | refine xq_blockX ?_ | refine xq_thenE ?_ | refine xq_blockE rfl ?_ | refine xq_scopeE ?_)
        with_reducible repeat (first | refine xq_then ?_ | refine xq_blockN ?_ | refine xq_scopeN ?_)
        with_reducible repeat refine xc_seq ?_
        with_reducible refine xc_region ?_
        refine xo_add rfl rfl rfl (by omega) rfl ?_
        refine xo_mv rfl rfl rfl ?_
        with_reducible refine xo_nil ?_
        with_reducible repeat (first | refine xq_then ?_ | refine xq_blockN ?_ | refine xq_scopeN ?_)
        refine xq_again _ _ _ _ _ (m + 1, rr) ⟨hlt, by rw [hstep]; exact hrr⟩ (by first | omega | (simp only; omega)) ⟨rfl, rfl, by rw [hstep]; rfl, by rw [hstep]; rfl, rfl, rfl, trivial⟩ ?_
        simp only [hstep]
        exact (List.sublist_cons_self _ _).trans (List.sublist_append_right _ _)
      rw [if_neg (by rw [hsk]; simp)] at hstep
      with_reducible refine xc_skip ?_
      with_reducible repeat (first | refine xq_then ?_ | refine xq_blockN ?_ | refine xq_scopeN ?_)
      with_reducible repeat refine xc_seq ?_
      with_reducible refine xc_region ?_
      refine xo_mv rfl rfl rfl ?_
      refine xo_mv rfl rfl rfl ?_
      refine xo_callB (fs := []) rfl rfl rfl eg rfl (fun w1 hw1 => hp (subM xs m) b18 w1 hw1.kx.below (hw1.own (φ := hmap (setV (subM xs m))) (by repeat (first | exact List.Mem.head _ | exact List.mem_append_left _ (List.Mem.head _) | apply List.mem_append_right | apply List.Mem.tail))) (hw1.imap (wr := true) (by repeat (first | exact List.Mem.head _ | exact List.mem_append_left _ (List.Mem.head _) | apply List.mem_append_right | apply List.Mem.tail))) hnd) ?_
      with_reducible refine xo_nil ?_
      with_reducible repeat (first | refine xq_then ?_ | refine xq_blockN ?_ | refine xq_scopeN ?_)
      with_reducible repeat refine xc_seq ?_
      refine xc_cond rfl (fun hpb => ?_) (fun hpb => ?_)
      · rw [if_pos hpb] at hstep
        with_reducible repeat refine xc_seq ?_
        with_reducible refine xc_region ?_
        refine xo_mv rfl rfl rfl ?_
        refine xo_asg rfl rfl rfl ?_
        refine xo_asg rfl rfl rfl ?_
        with_reducible refine xo_nil ?_
        with_reducible repeat (first | refine xq_then ?_ | refine xq_blockN ?_ | refine xq_scopeN ?_)
        with_reducible repeat refine xc_seq ?_
        with_reducible refine xc_region ?_
        refine xo_add rfl rfl rfl (by omega) rfl ?_
        refine xo_mv rfl rfl rfl ?_
        with_reducible refine xo_nil ?_
        with_reducible repeat (first | refine xq_then ?_ | refine xq_blockN ?_ | refine xq_scopeN ?_)
        refine xq_again _ _ _ _ _ (m + 1, r11) ⟨hlt, by rw [hstep]; exact h11⟩ (by first | omega | (simp only; omega)) ⟨rfl, rfl, by rw [hstep]; rfl, by rw [hstep]; rfl, rfl, rfl, trivial⟩ ?_
        simp only [hstep]
        exact List.Sublist.append (List.Sublist.refl _) (List.nil_sublist _)
      · rw [if_neg (by rw [hpb]; simp)] at hstep
        with_reducible refine xc_skip ?_
        with_reducible repeat (first | refine xq_then ?_ | refine xq_blockN ?_ | refine xq_scopeN ?_)
        with_reducible repeat refine xc_seq ?_
        with_reducible refine xc_region ?_
        refine xo_add rfl rfl rfl (by omega) rfl ?_
        refine xo_mv rfl rfl rfl ?_
        with_reducible refine xo_nil ?_
        with_reducible repeat (first | refine xq_then ?_ | refine xq_blockN ?_ | refine xq_scopeN ?_)
        refine xq_again _ _ _ _ _ (m + 1, rr) ⟨hlt, by rw [hstep]; exact hrr⟩ (by first | omega | (simp only; omega)) ⟨rfl, rfl, by rw [hstep]; rfl, by rw [hstep]; rfl, rfl, rfl, trivial⟩ ?_
        simp only [hstep]
        exact (List.sublist_cons_self _ _).trans (List.sublist_append_right _ _)
  · have hge : ¬ m < 2 ^ xs.length := by have := of_decide_eq_false h; omega
    have hmm : m = 2 ^ xs.length := by omega
    subst hmm
    with_reducible refine xc_exit ?_
    with_reducible repeat (first | refine xq_blockX ?_ | refine xq_thenE ?_ | refine xq_blockE rfl ?_ | refine xq_scopeE ?_)
    with_reducible repeat (first | refine xq_then ?_ | refine xq_blockN ?_ | refine xq_scopeN ?_)
    with_reducible repeat refine xc_seq ?_
    with_reducible refine xc_region ?_
    refine xo_mv rfl rfl rfl ?_
    refine xo_asg rfl rfl rfl ?_
    with_reducible refine xo_nil ?_
    with_reducible repeat (first | refine xq_then ?_ | refine xq_blockN ?_ | refine xq_scopeN ?_)
    with_reducible repeat refine xc_seq ?_
    with_reducible refine xc_ret ?_
    with_reducible repeat (first | refine xq_thenR ?_ | refine xq_blockR ?_ | refine xq_scopeR ?_)
    exact xq_ret1 rfl rfl fun w' hw => ⟨rr, rfl, RowAt.of hw hrr, hw.kx.below⟩
end Go.Proofs.YtcmepdamemnbkaaDoor
