/- ref08: within, At, SameInts, SameLetters, Great. / ref08: Same, Great. / ref08.Great. / ref08.Records answers what trust.recorded answers. / ref08.Records: the walk. / ref08.Check answers what trust.Check answers. / ref08.Gone. / ref08.Hold: plain part. / trust.count: the moves of all batches. / trust.Pieces. / ref08.store, Moves answer what trust.count answers. / ref08.Moves answers what trust.count answers. / ref08.Hold: the walk. / ref08.Comes: which batches come of a record. / The library's own functions that the shelf's contract asks, where they lie in this program. / slices.AppendSeq, Collect over an iterator that yields one of several lists. / maps.Keys over a set of whole numbers: an iterator that yields its members in some order. / slices.Sort, slices.Sorted over a set's keys: the members in rising order. / The library's own functions that the shelf's contract asks, where they lie in this program. -/
import Derived.Test.YtcmepdamemnbkaaDoorPkLawTrustExamples4
import Derived.Test.YtcmepdamemnbkaaDoorPkLawTrustExamples3
import Derived.Test.YtcmepdamemnbkaaDoorPkLawTrustExamples2
import Derived.Shelf.Sort.Plain
import Derived.Shelf.Lays
import Derived.Sort.OwnSortedInts
import Derived.Shelf.Small.Bits
namespace Go.Proofs.YtcmepdamemnbkaaDoor
open Go.RowKit Go.Proofs.YtcmepdamemnbkaaDoorW.PrintWords
set_option linter.unusedVariables false
set_option linter.unusedSimpArgs false
def atF (r : List RecT) (id : Int) : Int := idxF (fun x => decide (x.f0 = id)) r 0
/-- two rows that are alike -/
theorem sameInts_calls (A B : Option Addr) (c c' : Nat) (xs : List Int) (w : World) (hr : Kd.C (Kd.int .i64) w A xs.length xs) (hl : Kd.C (Kd.int .i64) w B xs.length xs) :
    Calls Tryd.prog 17 #[.slice A xs.length c, .slice B xs.length c'] w fun e w' => e = .returned (.bool true) ∧ Below w.heap.size w w' := by
  have hn := hr.2.1
  refine x_calls (X := XNone) Tryd.func17 rfl rfl rfl ?_
  with_reducible repeat refine xc_seq ?_
  with_reducible refine xc_region ?_
  refine xo_asg rfl rfl rfl ?_
  with_reducible refine xo_nil ?_
  with_reducible repeat (first | refine xq_then ?_ | refine xq_blockN ?_ | refine xq_scopeN ?_)
  have h0 : (!decide ((xs.length : Int) = (xs.length : Int))) = false := by simp
  with_reducible repeat refine xc_seq ?_
  with_reducible refine xc_region ?_
  refine xo_mv rfl rfl rfl ?_
  refine xo_len T_ rfl rfl rfl rfl ?_
  refine xo_mv rfl rfl rfl ?_
  refine xo_len T_ rfl rfl rfl rfl ?_
  refine xo_neq rfl rfl rfl rfl ?_
  refine xo_as (i := 10) rfl (congrArg Value.bool h0) ?_
  with_reducible refine xo_nil ?_
  with_reducible repeat (first | refine xq_then ?_ | refine xq_blockN ?_ | refine xq_scopeN ?_)
  with_reducible repeat refine xc_seq ?_
  refine xc_condF rfl ?_
  with_reducible refine xc_skip ?_
  with_reducible repeat (first | refine xq_then ?_ | refine xq_blockN ?_ | refine xq_scopeN ?_)
  with_reducible repeat refine xc_seq ?_
  with_reducible refine xc_region ?_
  refine xo_asg rfl rfl rfl ?_
  with_reducible refine xo_nil ?_
  with_reducible repeat (first | refine xq_then ?_ | refine xq_blockN ?_ | refine xq_scopeN ?_)
  with_reducible repeat refine xc_seq ?_
  with_reducible refine xc_block ?_
  refine xc_loop (γ := Nat) (fun k => k ≤ xs.length) (fun k => [(0, .slice A xs.length c), (1, .slice B xs.length c'), (5, .int .i64 (k : Int))]) (fun _ => []) (fun k => xs.length - k) 0
    (Nat.zero_le _) ⟨rfl, rfl, rfl, trivial⟩ (List.Sublist.refl _) ?_
  intro k hk
  with_reducible repeat refine xc_seq ?_
  with_reducible refine xc_region ?_
  refine xo_mv rfl rfl rfl ?_
  refine xo_mv rfl rfl rfl ?_
  refine xo_len T_ rfl rfl rfl rfl ?_
  refine xo_lss rfl rfl rfl rfl ?_
  with_reducible refine xo_nil ?_
  with_reducible repeat (first | refine xq_then ?_ | refine xq_blockN ?_ | refine xq_scopeN ?_)
  with_reducible repeat refine xc_seq ?_
  refine xc_cond rfl (fun h => ?_) (fun h => ?_)
  · have hlt : k < xs.length := by have := of_decide_eq_true h; omega
    obtain ⟨ad, rfl, r1⟩ := int_at hr k hlt
    obtain ⟨bd, rfl, r2⟩ := int_at hl k hlt
    with_reducible refine xc_skip ?_
    with_reducible repeat (first | refine xq_then ?_ | refine xq_blockN ?_ | refine xq_scopeN ?_)
    with_reducible repeat refine xc_seq ?_
    with_reducible refine xc_block ?_
    have h0 : (!decide (xs.getD k 0 = xs.getD k 0)) = false := by simp
    with_reducible repeat refine xc_seq ?_
    apply xc_drawN
    · exact T_.mixed
    · rfl
    · rfl
    · rfl
    · rfl
    · apply DrawOps.cons
      · intro τ
        refine xo_mv rfl rfl rfl ?_
        exact xo_fin rfl
      apply DrawOps.cons
      · intro τ
        refine xo_mv rfl rfl rfl ?_
        exact xo_fin rfl
      apply DrawOps.cons
      · intro τ
        refine xo_ia T_ rfl rfl rfl rfl rfl ⟨by omega, by omega⟩ rfl ?_
        exact xo_fin rfl
      apply DrawOps.cons
      · intro τ
        refine xo_loadR0 T_ rfl rfl rfl (by first | assumption | exact RO.fld (by assumption) rfl) rfl ?_
        exact xo_fin rfl
      apply DrawOps.cons
      · intro τ
        refine xo_mv rfl rfl rfl ?_
        exact xo_fin rfl
      apply DrawOps.cons
      · intro τ
        refine xo_mv rfl rfl rfl ?_
        exact xo_fin rfl
      apply DrawOps.cons
      · intro τ
        refine xo_ia T_ rfl rfl rfl rfl rfl ⟨by omega, by omega⟩ rfl ?_
        exact xo_fin rfl
      apply DrawOps.cons
      · intro τ
        refine xo_loadR0 T_ rfl rfl rfl (by first | assumption | exact RO.fld (by assumption) rfl) rfl ?_
        exact xo_fin rfl
      apply DrawOps.cons
      · intro τ
        refine xo_neq rfl rfl rfl rfl ?_
        first
          | exact xo_fin (congrArg Value.bool h0)
          | exact xo_fin rfl
      exact DrawOps.nil
    · rfl
    with_reducible repeat (first | refine xq_then ?_ | refine xq_blockN ?_ | refine xq_scopeN ?_)
    with_reducible repeat refine xc_seq ?_
    refine xc_condF rfl ?_
    with_reducible refine xc_skip ?_
    with_reducible repeat (first | refine xq_then ?_ | refine xq_blockN ?_ | refine xq_scopeN ?_)
    with_reducible repeat refine xc_seq ?_
    with_reducible refine xc_region ?_
    refine xo_mv rfl rfl rfl ?_
    refine xo_add rfl rfl rfl (by omega) rfl ?_
    refine xo_asg rfl rfl rfl ?_
    with_reducible refine xo_nil ?_
    with_reducible repeat (first | refine xq_then ?_ | refine xq_blockN ?_ | refine xq_scopeN ?_)
    exact xq_again _ _ _ _ _ (k + 1) (by omega) (by omega) ⟨rfl, rfl, rfl, trivial⟩ (List.Sublist.refl _)
  · have hge : ¬ k < xs.length := by have := of_decide_eq_false h; omega
    with_reducible refine xc_exit ?_
    with_reducible repeat (first | refine xq_blockX ?_ | refine xq_thenE ?_ | refine xq_blockE rfl ?_ | refine xq_scopeE ?_)
    with_reducible repeat (first | refine xq_then ?_ | refine xq_blockN ?_ | refine xq_scopeN ?_)
    with_reducible repeat refine xc_seq ?_
    with_reducible refine xc_region ?_
    refine xo_asg rfl rfl rfl ?_
    with_reducible refine xo_nil ?_
    with_reducible repeat (first | refine xq_then ?_ | refine xq_blockN ?_ | refine xq_scopeN ?_)
    with_reducible repeat refine xc_seq ?_
    with_reducible refine xc_ret ?_
    with_reducible repeat (first | refine xq_thenR ?_ | refine xq_blockR ?_ | refine xq_scopeR ?_)
    exact xq_ret1 rfl rfl fun w' hw => ⟨rfl, hw.kx.below⟩
theorem sameInts_enters : ∀ args w, (callFunc 17 args).run Tryd.prog w = .ok (.enter 17 args) w := enters_of Tryd.func17 (by kernel_rfl) rfl
theorem eqLet (d : Nat) (w : World) (x y : LetT) :
    (Op.equalIn (d + 2) 52 (.agg (letV x).toArray) (.agg (letV y).toArray)).run Tryd.prog w = .ok (x.f0 == y.f0 && (x.f1 == y.f1 && (x.f2 == y.f2 && (x.f3 == y.f3)))) w := by
  refine eqA_of Tryd.underlying52 (by kernel_rfl) ?_
  refine eqf_cons (by rfl) (by go_simp; rfl) (by go_simp; rfl) (by go_simp) ?_
  refine eqf_cons (by rfl) (by go_simp; rfl) (by go_simp; rfl) (by go_simp) ?_
  refine eqf_cons (by rfl) (by go_simp; rfl) (by go_simp; rfl) (by go_simp) ?_
  exact eqf_last (by rfl) (by go_simp; rfl) (by go_simp; rfl) (by go_simp)
section
variable {ro : Option Nat} {n N : Nat} {ds : List Deferred} {w0 : World} {X : Nat → Prop} {Q : Exit → Act → World → Prop} {σ : Slots} {η : Hp} {ops rest : List Oper} {d : Option Tmp} {ty pos aft} {g : Option (Nat × Bool)}
attribute [local go_sem high] eqLet
end
end Go.Proofs.YtcmepdamemnbkaaDoor
namespace Go.Proofs.YtcmepdamemnbkaaDoor
open Go.RowKit Go.Proofs.YtcmepdamemnbkaaDoorW.PrintWords
set_option linter.unusedVariables false
set_option linter.unusedSimpArgs false
theorem ne_ff (x : Int) : (!decide (x = x)) = false := by simp
end Go.Proofs.YtcmepdamemnbkaaDoor
namespace Go.Proofs.YtcmepdamemnbkaaDoor
open Go.RowKit Go.Proofs.YtcmepdamemnbkaaDoorW.PrintWords
set_option linter.unusedVariables false
set_option linter.unusedSimpArgs false
end Go.Proofs.YtcmepdamemnbkaaDoor
namespace Go.Proofs.YtcmepdamemnbkaaDoor
open Go.RowKit Go.Proofs.YtcmepdamemnbkaaDoorW.PrintWords
set_option linter.unusedVariables false
set_option linter.unusedSimpArgs false
def idAt (r : List RecT) (k : Nat) : Int := (r.getD k zRec).f0
def SortedIds (r : List RecT) : Prop := ∀ j, j + 1 < r.length → idAt r j < idAt r (j + 1)
theorem recF_sorted : ∀ (r : List RecT) (bs : List Int) (last : Int), recF bs last r = true → (∀ j, j < r.length → last < idAt r j) ∧ SortedIds r
  | [], _, _, _ => ⟨fun j hj => absurd hj (by simp), fun j hj => absurd hj (by simp)⟩
  | x :: r, bs, last, h => by
    simp only [recF, Bool.and_eq_true] at h
    obtain ⟨⟨⟨h1, _⟩, _⟩, _, h2⟩ := h
    simp only [inF, Bool.and_eq_true, decide_eq_true_eq] at h1
    obtain ⟨h3, h4⟩ := recF_sorted r _ _ h2
    refine ⟨fun j hj => ?_, fun j hj => ?_⟩
    · cases j with
      | zero => simp [idAt]; omega
      | succ j =>
        have := h3 j (by simpa using hj)
        simp [idAt] at this ⊢
        omega
    · cases j with
      | zero =>
        have := h3 0 (by simpa using hj)
        simpa [idAt] using this
      | succ j =>
        have := h4 j (by simpa using hj)
        simpa [idAt] using this
theorem sorted_lt {r : List RecT} (h : SortedIds r) : ∀ j i, i < j → j < r.length → idAt r i < idAt r j
  | 0, i, h1, _ => absurd h1 (by omega)
  | j + 1, i, h1, h2 => by
    have h3 := h j h2
    by_cases e : i = j
    · subst e; exact h3
    · have := sorted_lt h j i (by omega) (by omega)
      omega
theorem knownF_iff {r : List RecT} {n : Int} : knownF r n = true ↔ ∃ i, i < r.length ∧ idAt r i = n := by
  unfold knownF
  simp only [List.any_eq_true, decide_eq_true_eq]
  constructor
  · rintro ⟨x, hx, rfl⟩
    obtain ⟨i, hi, rfl⟩ := List.getElem_of_mem hx
    exact ⟨i, hi, by simp [idAt, List.getD_eq_getElem?_getD, List.getElem?_eq_getElem hi]⟩
  · rintro ⟨i, hi, rfl⟩
    exact ⟨r.getD i zRec, getD_mem r zRec i hi, rfl⟩
end Go.Proofs.YtcmepdamemnbkaaDoor
namespace Go.Proofs.YtcmepdamemnbkaaDoor
open Go.RowKit Go.Proofs.YtcmepdamemnbkaaDoorW.PrintWords
set_option linter.unusedVariables false
set_option linter.unusedSimpArgs false
end Go.Proofs.YtcmepdamemnbkaaDoor
namespace Go.Proofs.YtcmepdamemnbkaaDoor
open Go.RowKit Go.Proofs.YtcmepdamemnbkaaDoorW.PrintWords
set_option linter.unusedVariables false
set_option linter.unusedSimpArgs false
end Go.Proofs.YtcmepdamemnbkaaDoor
namespace Go.Proofs.YtcmepdamemnbkaaDoor
open Go.RowKit Go.Proofs.YtcmepdamemnbkaaDoorW.PrintWords
set_option linter.unusedVariables false
set_option linter.unusedSimpArgs false
end Go.Proofs.YtcmepdamemnbkaaDoor
namespace Go.Proofs.YtcmepdamemnbkaaDoor
open Go.RowKit Go.Proofs.YtcmepdamemnbkaaDoorW.PrintWords
set_option linter.unusedVariables false
set_option linter.unusedSimpArgs false
theorem recorded_len {r : List RecT} (h : recordedF r = true) : r.length ≤ 12 := by
  simp only [recordedF, Bool.and_eq_true, decide_eq_true_eq] at h
  exact h.2
theorem sorted_of {r : List RecT} (h : recordedF r = true) : SortedIds r := by
  simp only [recordedF, Bool.and_eq_true] at h
  exact (recF_sorted r _ _ h.1).2
theorem sorted_inj {r : List RecT} (h : SortedIds r) {i j : Nat} (hi : i < r.length) (hj : j < r.length) (e : idAt r i = idAt r j) : i = j := by
  by_cases h1 : i < j
  · have := sorted_lt h j i h1 hj; omega
  · by_cases h2 : j < i
    · have := sorted_lt h i j h2 hi; omega
    · omega
theorem idxF_at {α : Type} (p : α → Bool) (z : α) : ∀ (zs : List α) (i : Nat), zs.any p = true → ∃ a, a < zs.length ∧ idxF p zs i = ((i + a : Nat) : Int) ∧ p (zs.getD a z) = true
  | [], _, h => by cases h
  | x :: r, i, h => by
    by_cases hx : p x = true
    · exact ⟨0, by simp, by simp [idxF, hx], by simpa using hx⟩
    · have hx' : p x = false := by simpa using hx
      rw [List.any_cons, hx', Bool.false_or] at h
      obtain ⟨a, h1, h2, h3⟩ := idxF_at p z r (i + 1) h
      exact ⟨a + 1, by simpa using h1, by rw [idxF, hx', if_neg (by simp), h2]; omega, by simpa using h3⟩
theorem atF_known {r : List RecT} {n : Int} (h : knownF r n = true) : ∃ a, a < r.length ∧ atF r n = (a : Int) ∧ idAt r a = n := by
  obtain ⟨a, h1, h2, h3⟩ := idxF_at (fun x : RecT => decide (x.f0 = n)) zRec r 0 h
  exact ⟨a, h1, by rw [atF, h2]; simp, of_decide_eq_true h3⟩
theorem holdsL_mem {G : List Int} : ∀ (r : List RecT) (bs : List Int) (n : Int), n ∈ holdsL G bs r → ∃ i, i < r.length ∧ idAt r i = n
  | [], _, n, h => by cases h
  | x :: r, bs, n, h => by
    unfold holdsL at h
    split at h
    · obtain ⟨i, h1, h2⟩ := holdsL_mem r _ n h
      exact ⟨i + 1, by simpa using h1, by simpa [idAt] using h2⟩
    · rcases List.mem_cons.1 h with rfl | h
      · exact ⟨0, by simp, rfl⟩
      · obtain ⟨i, h1, h2⟩ := holdsL_mem r _ n h
        exact ⟨i + 1, by simpa using h1, by simpa [idAt] using h2⟩
theorem idAt_drop (r : List RecT) (k i : Nat) : idAt (r.drop k) i = idAt r (k + i) := by simp [idAt, List.getD_eq_getElem?_getD, List.getElem?_drop]
theorem hold_state (r : List RecT) (G : List Int) : ∀ k, k ≤ r.length → ∃ bs pre, holdsF r G = pre ++ holdsL G bs (r.drop k) ∧ (∀ n, n ∈ bs ↔ n ∈ pre) ∧ ∀ n ∈ pre, ∃ i, i < k ∧ idAt r i = n
  | 0, _ => ⟨[], [], rfl, fun n => Iff.rfl, fun n h => by cases h⟩
  | k + 1, hk => by
    obtain ⟨bs, pre, h1, h2, h3⟩ := hold_state r G k (by omega)
    rw [drop_at r zRec k (by omega), holdsL] at h1
    split at h1
    · exact ⟨bs, pre, h1, h2, fun n hn => by obtain ⟨i, hi, e⟩ := h3 n hn; exact ⟨i, by omega, e⟩⟩
    · refine ⟨insN (r.getD k zRec).f0 bs, pre ++ [(r.getD k zRec).f0], by rw [h1, List.append_assoc]; rfl, fun n => ?_, fun n hn => ?_⟩
      · rw [mem_insN, h2, List.mem_append, List.mem_singleton]
        exact or_comm
      · rcases List.mem_append.1 hn with hn | hn
        · obtain ⟨i, hi, e⟩ := h3 n hn; exact ⟨i, by omega, e⟩
        · rw [List.mem_singleton] at hn; exact ⟨k, by omega, hn.symm⟩
/-- what the reference's row of truths says of the k-th record -/
theorem hold_at {r : List RecT} (hs : SortedIds r) (G : List Int) (k : Nat) (hk : k < r.length) :
    ∃ bs, decide (idAt r k ∈ holdsF r G) = (standsF bs (r.getD k zRec).f2 && !decide (idAt r k ∈ G)) ∧ ∀ n, n ∈ bs ↔ n ∈ holdsF r G ∧ ∃ i, i < k ∧ idAt r i = n := by
  obtain ⟨bs, pre, h1, h2, h3⟩ := hold_state r G k (by omega)
  have hlater : ∀ bs n, n ∈ holdsL G bs (r.drop (k + 1)) → ∃ i, k < i ∧ i < r.length ∧ idAt r i = n := fun bs n hn => by
    obtain ⟨i, hi, e⟩ := holdsL_mem _ _ _ hn
    rw [idAt_drop] at e
    rw [List.length_drop] at hi
    exact ⟨k + 1 + i, by omega, by omega, e⟩
  have hnot : ∀ bs, idAt r k ∉ holdsL G bs (r.drop (k + 1)) := fun bs hn => by
    obtain ⟨i, h4, h5, e⟩ := hlater bs _ hn
    have := sorted_inj hs h5 hk e
    omega
  have hpre : idAt r k ∉ pre := fun hn => by
    obtain ⟨i, hi, e⟩ := h3 _ hn
    have := sorted_inj hs (by omega) hk e
    omega
  have hall : ∀ n, n ∈ holdsL G bs (r.drop k) → ∃ i, k ≤ i ∧ i < r.length ∧ idAt r i = n := fun n hn => by
    obtain ⟨i, hi, e⟩ := holdsL_mem _ _ _ hn
    rw [idAt_drop] at e
    rw [List.length_drop] at hi
    exact ⟨k + i, by omega, by omega, e⟩
  refine ⟨bs, ?_, fun n => ?_⟩
  · have h4 : idAt r k ∈ holdsF r G ↔ idAt r k ∈ holdsL G bs (r.drop k) := by
      rw [h1, List.mem_append]
      exact ⟨fun h => h.resolve_left hpre, .inr⟩
    have hid : (r.getD k zRec).f0 = idAt r k := rfl
    rw [drop_at r zRec k hk, holdsL, hid] at h4
    rw [Bool.eq_iff_iff, decide_eq_true_eq, h4]
    by_cases h5 : idAt r k ∈ G <;> cases h6 : standsF bs (r.getD k zRec).f2 <;> simp [h5, hnot]
  · rw [h2, h1, List.mem_append]
    constructor
    · intro hn
      exact ⟨.inl hn, h3 n hn⟩
    · rintro ⟨hn | hn, i, hi, e⟩
      · exact hn
      · obtain ⟨j, h4, h5, e2⟩ := hall n hn
        have := sorted_inj hs (by omega : i < r.length) h5 (e.trans e2.symm)
        omega
end Go.Proofs.YtcmepdamemnbkaaDoor
namespace Go.Proofs.YtcmepdamemnbkaaDoor
open Go.RowKit Go.Proofs.YtcmepdamemnbkaaDoorW.PrintWords
set_option linter.unusedVariables false
set_option linter.unusedSimpArgs false
theorem batch_at {r : List RecT} {k : Nat} {n : Int} (h : n ∈ batchesF (r.take k)) : ∃ j, j < k ∧ j < r.length ∧ idAt r j = n := by
  simp only [batchesF, List.mem_map, List.mem_filter] at h
  obtain ⟨x, ⟨h1, _⟩, rfl⟩ := h
  obtain ⟨j, hj, rfl⟩ := List.getElem_of_mem h1
  have hj2 : j < k ∧ j < r.length := by simp at hj; omega
  refine ⟨j, hj2.1, hj2.2, ?_⟩
  simp [idAt, List.getD_eq_getElem?_getD, List.getElem?_eq_getElem hj2.2]
theorem batch_new {r : List RecT} (hs : SortedIds r) {k : Nat} (hk : k < r.length) : (r.getD k zRec).f0 ∉ batchesF (r.take k) := fun h => by
  obtain ⟨j, h1, h2, h3⟩ := batch_at h
  have := sorted_inj hs h2 hk h3
  omega
theorem batches_nodup {r : List RecT} (hs : SortedIds r) : ∀ k, k ≤ r.length → (batchesF (r.take k)).Nodup
  | 0, _ => by simp [batchesF]
  | k + 1, h => by
    rw [batchesF_take (by omega)]
    split
    · refine List.nodup_append.2 ⟨batches_nodup hs k (by omega), by simp, fun a ha b hb e => ?_⟩
      rw [List.mem_singleton] at hb
      subst hb
      subst e
      exact batch_new hs (by omega) ha
    · rw [List.append_nil]
      exact batches_nodup hs k (by omega)
theorem Ents.stM {es : Array MapEntry} {c : Nat} {L : List (Int × Nat)} (h : Ents es c (stM L)) {e : MapEntry} (he : e ∈ es.toList) : ∃ p ∈ L, e.key = .int .i64 p.1 ∧ e.val = .pointer (some ⟨p.2, 0, none⟩) := by
  have h1 : kvE e ∈ es.toList.map kvE := List.mem_map_of_mem he
  rw [h.is, Go.Proofs.YtcmepdamemnbkaaDoor.stM, List.map_map] at h1
  obtain ⟨p, hp, h2⟩ := List.mem_map.1 h1
  exact ⟨p, hp, (congrArg Prod.fst h2).symm, (congrArg Prod.snd h2).symm⟩
theorem Ents.stM' {es : Array MapEntry} {c : Nat} {L : List (Int × Nat)} (h : Ents es c (Go.Proofs.YtcmepdamemnbkaaDoor.stM L)) {p : Int × Nat} (hp : p ∈ L) : ∃ e ∈ es.toList, e.key = .int .i64 p.1 := by
  have h1 : (Value.int .i64 p.1, Value.pointer (some ⟨p.2, 0, none⟩)) ∈ es.toList.map kvE := by
    rw [h.is, Go.Proofs.YtcmepdamemnbkaaDoor.stM, List.map_map]
    exact List.mem_map.2 ⟨p, hp, rfl⟩
  obtain ⟨e, he, h2⟩ := List.mem_map.1 h1
  exact ⟨e, he, congrArg Prod.fst h2⟩
theorem once_eq {es : Array MapEntry} {c : Nat} {l : List (Int × Value)} (hE : Ents es c l) {e e' : MapEntry} (he : e ∈ es.toList) (he' : e' ∈ es.toList) (h : e.born = e'.born) : e = e' := by
  obtain ⟨i, hi, rfl⟩ := List.getElem_of_mem he
  obtain ⟨j, hj, rfl⟩ := List.getElem_of_mem he'
  have ho := hE.once
  by_cases q : i = j
  · subst q; rfl
  · exfalso
    rw [List.nodup_iff_pairwise_ne, List.pairwise_iff_getElem] at ho
    by_cases hl : i < j
    · exact ho i j (by simpa using hi) (by simpa using hj) hl (by simpa using h)
    · exact ho j i (by simpa using hj) (by simpa using hi) (by omega) (by simpa using h.symm)
set_option maxHeartbeats 16000000 in
theorem count_calls (A B : Option Addr) (c c' : Nat) (r : List RecT) (m : List MovT) (w : World) (hr : Kd.C recK w A r.length r) (hm : Kd.C movK w B m.length m) (hkm : BytesM m) (hs : SortedIds r) (hlen : r.length ≤ 1000000) (hglob : GlobOK w) :
    Calls Tryd.prog 42 #[.slice A r.length c, .slice B m.length c'] w fun e w' => (countF r m = false ∧ e = .returned (.tuple #[.map none, .bool false]) ∧ Below w.heap.size w w') ∨
      (countF r m = true ∧ ∃ M L, e = .returned (.tuple #[.map (some M), .bool true]) ∧ L.map (·.1) = batchesF r ∧ WOK w XNone ((M, true, hmap (stM L)) :: stH (storeF m) L) w') := by
  have hn := hr.2.1
  have hn2 := hm.2.1
  refine x_calls (X := XNone) Tryd.func42 rfl rfl rfl ?_
  with_reducible repeat refine xc_seq ?_
  with_reducible refine xc_region ?_
  refine xo_asg rfl rfl rfl ?_
  refine xo_asg rfl rfl rfl ?_
  with_reducible refine xo_nil ?_
  with_reducible repeat (first | refine xq_then ?_ | refine xq_blockN ?_ | refine xq_scopeN ?_)
  with_reducible repeat refine xc_seq ?_
  with_reducible refine xc_region ?_
  refine xo_mkm rfl rfl (fun b16 => ?_)
  refine xo_asg rfl rfl rfl ?_
  with_reducible refine xo_nil ?_
  with_reducible repeat (first | refine xq_then ?_ | refine xq_blockN ?_ | refine xq_scopeN ?_)
  with_reducible repeat refine xc_seq ?_
  with_reducible refine xc_region ?_
  refine xo_mv rfl rfl rfl ?_
  refine xo_len T_ rfl rfl rfl rfl ?_
  refine xo_mv rfl rfl rfl ?_
  with_reducible refine xo_nil ?_
  with_reducible repeat (first | refine xq_then ?_ | refine xq_blockN ?_ | refine xq_scopeN ?_)
  with_reducible repeat refine xc_seq ?_
  with_reducible refine xc_block ?_
  refine xc_loop (γ := Nat × List (Int × Nat)) (fun q => q.1 ≤ r.length ∧ q.2.map (·.1) = batchesF (r.take q.1)) (fun q => [(0, .slice A r.length c), (1, .slice B m.length c'), (6, .map (some b16)), (17, .slice A r.length c), (18, .int .i64 (r.length : Int)), (19, .int .i64 (q.1 : Int))])
    (fun q => (b16, true, hmap (stM q.2)) :: stH (fun _ => st0) q.2) (fun q => r.length - q.1) (0, []) ⟨Nat.zero_le _, by simp [batchesF]⟩ ⟨rfl, rfl, rfl, rfl, rfl, rfl, trivial⟩ (by repeat (first | exact List.Sublist.refl _ | apply List.Sublist.cons_cons | apply List.Sublist.cons | exact List.nil_sublist _)) ?_
  rintro ⟨k, L⟩ ⟨hk1, hL⟩
  simp only at hk1 hL ⊢
  with_reducible repeat refine xc_seq ?_
  with_reducible refine xc_region ?_
  refine xo_lss rfl rfl rfl rfl ?_
  with_reducible refine xo_nil ?_
  with_reducible repeat (first | refine xq_then ?_ | refine xq_blockN ?_ | refine xq_scopeN ?_)
  with_reducible repeat refine xc_seq ?_
  refine xc_cond rfl (fun h => ?_) (fun h => ?_)
  · have hlt : k < r.length := by have := of_decide_eq_true h; omega
    obtain ⟨ad, A2, c2, rfl, r1, hc2, hw2⟩ := rec_at hr k hlt
    have hnew := batch_new hs hlt
    have htk := batchesF_take hlt
    rw [← hL] at hnew htk
    generalize r.getD k zRec = x at *
    with_reducible refine xc_skip ?_
    with_reducible repeat (first | refine xq_then ?_ | refine xq_blockN ?_ | refine xq_scopeN ?_)
    with_reducible repeat refine xc_seq ?_
    with_reducible refine xc_block ?_
    with_reducible repeat refine xc_seq ?_
    with_reducible refine xc_region ?_
    refine xo_ia T_ rfl rfl rfl rfl rfl ⟨by omega, by omega⟩ rfl ?_
    refine xo_loadRN T_ rfl rfl rfl (by assumption) rfl rfl ?_
    refine xo_alloc T_ rfl rfl rfl rfl (fun b8 => ?_)
    refine xo_store T_ rfl rfl rfl rfl (by repeat (first | exact List.Mem.head _ | apply List.Mem.tail | apply List.mem_append_right)) rfl rfl rfl rfl (by repeat (first | exact Upd.head | apply Upd.tail | apply Upd.app)) rfl ?_
    with_reducible refine xo_nil ?_
    with_reducible repeat (first | refine xq_then ?_ | refine xq_blockN ?_ | refine xq_scopeN ?_)
    with_reducible repeat refine xc_seq ?_
    with_reducible refine xc_region ?_
    refine xo_fa T_ rfl rfl rfl rfl rfl ?_
    refine xo_load0 T_ rfl rfl rfl (by repeat (first | exact List.Mem.head _ | apply List.Mem.tail | apply List.mem_append_right)) rfl rfl ?_
    refine xo_eql rfl rfl rfl rfl ?_
    with_reducible refine xo_nil ?_
    with_reducible repeat (first | refine xq_then ?_ | refine xq_blockN ?_ | refine xq_scopeN ?_)
    with_reducible repeat refine xc_seq ?_
    refine xc_cond rfl (fun h3 => ?_) (fun h3 => ?_)
    · have h3 : x.f1 = 3 := of_decide_eq_true h3
      with_reducible repeat refine xc_seq ?_
      with_reducible refine xc_region ?_
      refine xo_mv rfl rfl rfl ?_
      refine xo_fa T_ rfl rfl rfl rfl rfl ?_
      refine xo_load0 T_ rfl rfl rfl (by repeat (first | exact List.Mem.head _ | apply List.Mem.tail | apply List.mem_append_right)) rfl rfl ?_
      refine xo_build TB_ rfl rfl rfl rfl rfl ?_
      refine xo_box rfl rfl rfl rfl (fun b30 => ?_)
      refine xo_mupd T_ rfl rfl rfl rfl rfl rfl (by repeat (first | exact List.Mem.head _ | apply List.Mem.tail | apply List.mem_append_right)) (by rw [imSet_stM hnew]; exact (by repeat (first | exact Upd.head | apply Upd.tail | apply Upd.app))) rfl ?_
      with_reducible refine xo_nil ?_
      with_reducible repeat (first | refine xq_then ?_ | refine xq_blockN ?_ | refine xq_scopeN ?_)
      with_reducible repeat refine xc_seq ?_
      with_reducible refine xc_region ?_
      refine xo_add rfl rfl rfl (by omega) rfl ?_
      refine xo_mv rfl rfl rfl ?_
      with_reducible refine xo_nil ?_
      with_reducible repeat (first | refine xq_then ?_ | refine xq_blockN ?_ | refine xq_scopeN ?_)
      rw [if_pos h3] at htk
      refine xq_perm (List.perm_append_singleton _ _).symm (xq_again _ _ _ _ _ (k + 1, L ++ [(x.f0, b30)]) ⟨hlt, by simp only [List.map_append, htk]; rfl⟩ (by first | omega | (simp only; omega)) ⟨rfl, rfl, rfl, rfl, rfl, rfl, trivial⟩ ?_)
      simp only [stH, List.map_append]
      exact List.Sublist.cons _ (List.Sublist.refl _)
    · have h3 : ¬ x.f1 = 3 := of_decide_eq_false h3
      with_reducible refine xc_skip ?_
      with_reducible repeat (first | refine xq_then ?_ | refine xq_blockN ?_ | refine xq_scopeN ?_)
      with_reducible repeat refine xc_seq ?_
      with_reducible refine xc_region ?_
      refine xo_add rfl rfl rfl (by omega) rfl ?_
      refine xo_mv rfl rfl rfl ?_
      with_reducible refine xo_nil ?_
      with_reducible repeat (first | refine xq_then ?_ | refine xq_blockN ?_ | refine xq_scopeN ?_)
      rw [if_neg h3, List.append_nil] at htk
      exact xq_again _ _ _ _ _ (k + 1, L) ⟨hlt, by simp only [htk]⟩ (by first | omega | (simp only; omega)) ⟨rfl, rfl, rfl, rfl, rfl, rfl, trivial⟩ (by repeat (first | exact List.Sublist.refl _ | apply List.Sublist.cons_cons | apply List.Sublist.cons | exact List.nil_sublist _))
  have hge : ¬ k < r.length := by have := of_decide_eq_false h; omega
  rw [List.take_of_length_le (by omega)] at hL
  have hnd : (L.map (·.1)).Nodup := by
    have := batches_nodup hs r.length (Nat.le_refl _)
    rw [List.take_of_length_le (Nat.le_refl _)] at this
    rw [hL]
    exact this
  have hst0 : stH (fun _ => st0) L = stH (storeF (m.take 0)) L := rfl
  rw [hst0]
  with_reducible refine xc_exit ?_
  with_reducible repeat (first | refine xq_blockX ?_ | refine xq_thenE ?_ | refine xq_blockE rfl ?_ | refine xq_scopeE ?_)
  with_reducible repeat (first | refine xq_then ?_ | refine xq_blockN ?_ | refine xq_scopeN ?_)
  with_reducible repeat refine xc_seq ?_
  with_reducible refine xc_region ?_
  refine xo_asg rfl rfl rfl ?_
  with_reducible refine xo_nil ?_
  with_reducible repeat (first | refine xq_then ?_ | refine xq_blockN ?_ | refine xq_scopeN ?_)
  with_reducible repeat refine xc_seq ?_
  with_reducible refine xc_region ?_
  refine xo_mv rfl rfl rfl ?_
  refine xo_len T_ rfl rfl rfl rfl ?_
  refine xo_mv rfl rfl rfl ?_
  with_reducible refine xo_nil ?_
  with_reducible repeat (first | refine xq_then ?_ | refine xq_blockN ?_ | refine xq_scopeN ?_)
  with_reducible repeat refine xc_seq ?_
  with_reducible refine xc_block ?_
  refine xc_loop (γ := Nat × Int) (fun q => q.1 ≤ m.length ∧ q.1 ≤ 40 ∧ -1 ≤ q.2 ∧ q.2 ≤ 9999 ∧ movesL (batchesF r) (-1) 0 m = movesL (batchesF r) q.2 (q.1 : Int) (m.drop q.1) ∧ ∀ x ∈ m.take q.1, 1 ≤ x.f3 ∧ x.f3 ≤ 100000) (fun q => [(6, .map (some b16)), (9, .int .i64 q.2), (32, .slice B m.length c'), (33, .int .i64 (m.length : Int)), (34, .int .i64 (q.1 : Int))])
    (fun q => (b16, true, hmap (stM L)) :: stH (storeF (m.take q.1)) L) (fun q => m.length - q.1) (0, -1) ⟨Nat.zero_le _, Nat.zero_le _, by simp, by simp, rfl, by simp⟩ ⟨rfl, rfl, rfl, rfl, rfl, trivial⟩ (by repeat (first | exact List.Sublist.refl _ | apply List.Sublist.cons_cons | apply List.Sublist.cons | exact List.nil_sublist _)) ?_
  rintro ⟨k, last⟩ ⟨hk1, hk40, hl0, hl1, hmv, hpc⟩
  simp only at hk1 hk40 hl0 hl1 hmv hpc ⊢
  with_reducible repeat refine xc_seq ?_
  with_reducible refine xc_region ?_
  refine xo_lss rfl rfl rfl rfl ?_
  with_reducible refine xo_nil ?_
  with_reducible repeat (first | refine xq_then ?_ | refine xq_blockN ?_ | refine xq_scopeN ?_)
  with_reducible repeat refine xc_seq ?_
  refine xc_cond rfl (fun h => ?_) (fun h => ?_)
  · have hlt : k < m.length := by have := of_decide_eq_true h; omega
    obtain ⟨ad, rfl, r1⟩ := mov_at hm k hlt
    have hby := hkm _ (getD_mem m zMov k hlt)
    have hsucc := fun id => storeF_succ hlt id
    have htake : ∀ x ∈ m.take (k + 1), x ∈ m.take k ∨ x = m.getD k zMov := fun x hx => by
      rw [List.take_succ_eq_append_getElem hlt] at hx
      rcases List.mem_append.1 hx with hx | hx
      · exact .inl hx
      · rw [List.mem_singleton] at hx
        right
        rw [hx]
        simp [List.getD_eq_getElem?_getD, List.getElem?_eq_getElem hlt]
    have hSB := fun id => storeF_B hpc id
    have htl : ((m.take k).length : Int) ≤ 40 := by simp; omega
    rw [drop_at m zMov k hlt, movesL] at hmv
    generalize m.getD k zMov = x at *
    with_reducible refine xc_skip ?_
    with_reducible repeat (first | refine xq_then ?_ | refine xq_blockN ?_ | refine xq_scopeN ?_)
    with_reducible repeat refine xc_seq ?_
    with_reducible refine xc_block ?_
    with_reducible repeat refine xc_seq ?_
    with_reducible refine xc_region ?_
    refine xo_mv rfl rfl rfl ?_
    refine xo_ia T_ rfl rfl rfl rfl rfl ⟨by omega, by omega⟩ rfl ?_
    refine xo_loadRN T_ rfl rfl rfl (by assumption) rfl rfl ?_
    refine xo_alloc T_ rfl rfl rfl rfl (fun b11 => ?_)
    refine xo_asg rfl rfl rfl ?_
    refine xo_store T_ rfl rfl rfl rfl (by repeat (first | exact List.Mem.head _ | apply List.Mem.tail | apply List.mem_append_right)) rfl rfl rfl rfl (by repeat (first | exact Upd.head | apply Upd.tail | apply Upd.app)) rfl ?_
    with_reducible refine xo_nil ?_
    with_reducible repeat (first | refine xq_then ?_ | refine xq_blockN ?_ | refine xq_scopeN ?_)
    rcases imGet_stM (L := L) (id := x.f1) with ⟨b, hb1, hb2⟩ | ⟨hb1, hb2⟩
    rotate_left
    · with_reducible repeat refine xc_seq ?_
      with_reducible refine xc_region ?_
      refine xo_mv rfl rfl rfl ?_
      refine xo_fa T_ rfl rfl rfl rfl rfl ?_
      refine xo_load0 T_ rfl rfl rfl (by repeat (first | exact List.Mem.head _ | apply List.Mem.tail | apply List.mem_append_right)) rfl rfl ?_
      refine xo_look2 T_ rfl rfl rfl rfl rfl rfl (by repeat (first | exact List.Mem.head _ | apply List.Mem.tail | apply List.mem_append_right)) (by rw [hb2]) (by rw [hb2]) rfl ?_
      refine xo_mv rfl rfl rfl ?_
      refine xo_ext rfl rfl rfl rfl ?_
      refine xo_ext rfl rfl rfl rfl ?_
      refine xo_asg rfl rfl rfl ?_
      refine xo_asg rfl rfl rfl ?_
      with_reducible refine xo_nil ?_
      with_reducible repeat (first | refine xq_then ?_ | refine xq_blockN ?_ | refine xq_scopeN ?_)
      with_reducible repeat refine xc_seq ?_
      with_reducible refine xc_region ?_
      refine xo_mv rfl rfl rfl ?_
      refine xo_notOp rfl rfl rfl ?_
      refine xo_mv rfl rfl rfl ?_
      first
        | refine xo_not rfl rfl ?_
        | (refine xo_mv rfl rfl rfl ?_)
      first
        | refine xo_not rfl rfl ?_
        | (refine xo_add rfl rfl rfl (by omega) rfl ?_)
      first
        | refine xo_not rfl rfl ?_
        | (refine xo_fa T_ rfl rfl rfl rfl rfl ?_)
      first
        | refine xo_not rfl rfl ?_
        | (refine xo_load0 T_ rfl rfl rfl (by repeat (first | exact List.Mem.head _ | apply List.Mem.tail | apply List.mem_append_right)) rfl rfl ?_)
      first
        | refine xo_not rfl rfl ?_
        | (refine xo_bs1 T_ rfl rfl rfl rfl rfl rfl rfl rfl (fun b53 => ?_))
      first
        | refine xo_not rfl rfl ?_
        | (skip)
      first
        | refine xo_not rfl rfl ?_
        | (refine xo_notOp rfl rfl rfl ?_)
      first | refine xo_pickT rfl rfl rfl rfl ?_ | refine xo_pickF rfl rfl rfl rfl ?_
      refine xo_mv rfl rfl rfl ?_
      first
        | refine xo_not rfl rfl ?_
        | (refine xo_fa T_ rfl rfl rfl rfl rfl ?_)
      first
        | refine xo_not rfl rfl ?_
        | (refine xo_load0 T_ rfl rfl rfl (by repeat (first | exact List.Mem.head _ | apply List.Mem.tail | apply List.mem_append_right)) rfl rfl ?_)
      first
        | refine xo_not rfl rfl ?_
        | (refine xo_conv T_ rfl rfl rfl rfl (IntWalk.i64_in _ ⟨by omega, by omega⟩) rfl ?_)
      first
        | refine xo_not rfl rfl ?_
        | (refine xo_bs1 T_ rfl rfl rfl rfl rfl rfl rfl rfl (fun b61 => ?_))
      first
        | refine xo_not rfl rfl ?_
        | (skip)
      first
        | refine xo_not rfl rfl ?_
        | (refine xo_notOp rfl rfl rfl ?_)
      first | refine xo_pickT rfl rfl rfl rfl ?_ | refine xo_pickF rfl rfl rfl rfl ?_
      refine xo_mv rfl rfl rfl ?_
      first
        | refine xo_not rfl rfl ?_
        | (refine xo_fa T_ rfl rfl rfl rfl rfl ?_)
      first
        | refine xo_not rfl rfl ?_
        | (refine xo_load0 T_ rfl rfl rfl (by repeat (first | exact List.Mem.head _ | apply List.Mem.tail | apply List.mem_append_right)) rfl rfl ?_)
      first
        | refine xo_not rfl rfl ?_
        | (refine xo_bs1 T_ rfl rfl rfl rfl rfl rfl rfl rfl (fun b68 => ?_))
      first
        | refine xo_not rfl rfl ?_
        | (skip)
      first
        | refine xo_not rfl rfl ?_
        | (refine xo_notOp rfl rfl rfl ?_)
      first | refine xo_pickT rfl rfl rfl rfl ?_ | refine xo_pickF rfl rfl rfl rfl ?_
      refine xo_mv rfl rfl rfl ?_
      first
        | refine xo_not rfl rfl ?_
        | (refine xo_mv rfl rfl rfl ?_)
      first
        | refine xo_not rfl rfl ?_
        | (refine xo_geq rfl rfl rfl rfl ?_)
      first | refine xo_pickT rfl rfl rfl rfl ?_ | refine xo_pickF rfl rfl rfl rfl ?_
      with_reducible refine xo_nil ?_
      with_reducible repeat (first | refine xq_then ?_ | refine xq_blockN ?_ | refine xq_scopeN ?_)
      with_reducible repeat refine xc_seq ?_
      refine xc_condT rfl ?_
      with_reducible repeat refine xc_seq ?_
      with_reducible refine xc_region ?_
      refine xo_asg rfl rfl rfl ?_
      refine xo_asg rfl rfl rfl ?_
      with_reducible refine xo_nil ?_
      with_reducible repeat (first | refine xq_then ?_ | refine xq_blockN ?_ | refine xq_scopeN ?_)
      with_reducible repeat refine xc_seq ?_
      with_reducible refine xc_ret ?_
      with_reducible repeat (first | refine xq_thenR ?_ | refine xq_blockR ?_ | refine xq_scopeR ?_)
      refine xq_ret2 rfl rfl rfl fun w' hw => .inl ⟨?_, rfl, hw.kx.below⟩
      rw [hL] at hb1
      rw [countF, hmv, decide_eq_false hb1]
      rfl
    · have hbin : decide (x.f1 ∈ batchesF r) = true := by rw [← hL]; exact decide_eq_true (List.mem_map.2 ⟨_, hb1, rfl⟩)
      with_reducible repeat refine xc_seq ?_
      with_reducible refine xc_region ?_
      refine xo_mv rfl rfl rfl ?_
      refine xo_fa T_ rfl rfl rfl rfl rfl ?_
      refine xo_load0 T_ rfl rfl rfl (by repeat (first | exact List.Mem.head _ | apply List.Mem.tail | apply List.mem_append_right)) rfl rfl ?_
      refine xo_look2 T_ rfl rfl rfl rfl rfl rfl (by repeat (first | exact List.Mem.head _ | apply List.Mem.tail | apply List.mem_append_right)) (by rw [hb2]) (by rw [hb2]) rfl ?_
      refine xo_mv rfl rfl rfl ?_
      refine xo_ext rfl rfl rfl rfl ?_
      refine xo_ext rfl rfl rfl rfl ?_
      refine xo_asg rfl rfl rfl ?_
      refine xo_asg rfl rfl rfl ?_
      with_reducible refine xo_nil ?_
      with_reducible repeat (first | refine xq_then ?_ | refine xq_blockN ?_ | refine xq_scopeN ?_)
      cases h1 : !inF (last + 1) 9999 x.f0 <;> cases h2 : !inF 1 5 x.f2 <;> cases h3 : !inF 1 100000 x.f3 <;> cases h4 : decide (40 ≤ (k : Int))
      all_goals
        with_reducible repeat refine xc_seq ?_
        with_reducible refine xc_region ?_
        refine xo_mv rfl rfl rfl ?_
        refine xo_notOp rfl rfl rfl ?_
        refine xo_mv rfl rfl rfl ?_
        first
          | refine xo_not rfl rfl ?_
          | (refine xo_mv rfl rfl rfl ?_)
        first
          | refine xo_not rfl rfl ?_
          | (refine xo_add rfl rfl rfl (by omega) rfl ?_)
        first
          | refine xo_not rfl rfl ?_
          | (refine xo_fa T_ rfl rfl rfl rfl rfl ?_)
        first
          | refine xo_not rfl rfl ?_
          | (refine xo_load0 T_ rfl rfl rfl (by repeat (first | exact List.Mem.head _ | apply List.Mem.tail | apply List.mem_append_right)) rfl rfl ?_)
        first
          | refine xo_not rfl rfl ?_
          | (refine xo_bs1 T_ rfl rfl rfl rfl rfl rfl rfl rfl (fun b53 => ?_))
        first
          | refine xo_not rfl rfl ?_
          | (refine xo_callB (fs := []) (cs := []) rfl rfl rfl in_enters rfl (fun w1 hw1 => in_calls hw1 _ _ _ (by repeat (first | exact List.Mem.head _ | apply List.Mem.tail | apply List.mem_append_right))) ?_)
        first
          | refine xo_not rfl rfl ?_
          | (refine xo_notOp rfl rfl rfl ?_)
        refine xo_as (i := 55) rfl (congrArg Value.bool h1) ?_
        first | refine xo_pickT rfl rfl rfl rfl ?_ | refine xo_pickF rfl rfl rfl rfl ?_
        refine xo_mv rfl rfl rfl ?_
        first
          | refine xo_not rfl rfl ?_
          | (refine xo_fa T_ rfl rfl rfl rfl rfl ?_)
        first
          | refine xo_not rfl rfl ?_
          | (refine xo_load0 T_ rfl rfl rfl (by repeat (first | exact List.Mem.head _ | apply List.Mem.tail | apply List.mem_append_right)) rfl rfl ?_)
        first
          | refine xo_not rfl rfl ?_
          | (refine xo_conv T_ rfl rfl rfl rfl (IntWalk.i64_in _ ⟨by omega, by omega⟩) rfl ?_)
        first
          | refine xo_not rfl rfl ?_
          | (refine xo_bs1 T_ rfl rfl rfl rfl rfl rfl rfl rfl (fun b61 => ?_))
        first
          | refine xo_not rfl rfl ?_
          | (refine xo_callB (fs := []) (cs := []) rfl rfl rfl in_enters rfl (fun w1 hw1 => in_calls hw1 _ _ _ (by repeat (first | exact List.Mem.head _ | apply List.Mem.tail | apply List.mem_append_right))) ?_)
        first
          | refine xo_not rfl rfl ?_
          | (refine xo_notOp rfl rfl rfl ?_)
        first | refine xo_as (i := 63) rfl (congrArg Value.bool h2) ?_ | skip
        first | refine xo_pickT rfl rfl rfl rfl ?_ | refine xo_pickF rfl rfl rfl rfl ?_
        refine xo_mv rfl rfl rfl ?_
        first
          | refine xo_not rfl rfl ?_
          | (refine xo_fa T_ rfl rfl rfl rfl rfl ?_)
        first
          | refine xo_not rfl rfl ?_
          | (refine xo_load0 T_ rfl rfl rfl (by repeat (first | exact List.Mem.head _ | apply List.Mem.tail | apply List.mem_append_right)) rfl rfl ?_)
        first
          | refine xo_not rfl rfl ?_
          | (refine xo_bs1 T_ rfl rfl rfl rfl rfl rfl rfl rfl (fun b68 => ?_))
        first
          | refine xo_not rfl rfl ?_
          | (refine xo_callB (fs := []) (cs := []) rfl rfl rfl in_enters rfl (fun w1 hw1 => in_calls hw1 _ _ _ (by repeat (first | exact List.Mem.head _ | apply List.Mem.tail | apply List.mem_append_right))) ?_)
        first
          | refine xo_not rfl rfl ?_
          | (refine xo_notOp rfl rfl rfl ?_)
        first | refine xo_as (i := 70) rfl (congrArg Value.bool h3) ?_ | skip
        first | refine xo_pickT rfl rfl rfl rfl ?_ | refine xo_pickF rfl rfl rfl rfl ?_
        refine xo_mv rfl rfl rfl ?_
        first
          | refine xo_not rfl rfl ?_
          | (refine xo_mv rfl rfl rfl ?_)
        first
          | refine xo_not rfl rfl ?_
          | (refine xo_geq rfl rfl rfl rfl ?_)
        first | refine xo_pickT rfl rfl rfl rfl ?_ | refine xo_pickF rfl rfl rfl rfl ?_
        first | refine xo_as (i := 75) rfl (congrArg Value.bool h4) ?_ | skip
        with_reducible refine xo_nil ?_
        with_reducible repeat (first | refine xq_then ?_ | refine xq_blockN ?_ | refine xq_scopeN ?_)
        with_reducible repeat refine xc_seq ?_
        first | refine xc_condT rfl ?_ | refine xc_condF rfl ?_
      rotate_left
      iterate 15
        · with_reducible repeat refine xc_seq ?_
          with_reducible refine xc_region ?_
          refine xo_asg rfl rfl rfl ?_
          refine xo_asg rfl rfl rfl ?_
          with_reducible refine xo_nil ?_
          with_reducible repeat (first | refine xq_then ?_ | refine xq_blockN ?_ | refine xq_scopeN ?_)
          with_reducible repeat refine xc_seq ?_
          with_reducible refine xc_ret ?_
          with_reducible repeat (first | refine xq_thenR ?_ | refine xq_blockR ?_ | refine xq_scopeR ?_)
          refine xq_ret2 rfl rfl rfl fun w' hw => .inl ⟨?_, rfl, hw.kx.below⟩
          simp only [Bool.not_eq_true', Bool.not_eq_false'] at h1 h2 h3
          rw [countF, hmv]
          simp only [hbin, h1, h2, h3, h4, Bool.false_and, Bool.and_false, Bool.not_true, Bool.not_false, Bool.true_and, Bool.and_true]
      simp only [Bool.not_eq_true', Bool.not_eq_false'] at h1 h2 h3
      have hx0 : last + 1 ≤ x.f0 ∧ x.f0 ≤ 9999 := by simpa [inF] using h1
      have hx2 : 1 ≤ x.f2 ∧ x.f2 ≤ 5 := by simpa [inF] using h2
      have hx3 : 1 ≤ x.f3 ∧ x.f3 ≤ 100000 := by simpa [inF] using h3
      have hk4 : ¬ 40 ≤ (k : Int) := of_decide_eq_false h4
      have hrg : RO w XNone ((⟨0, 0, none⟩ : Addr).add (x.f2.toNat * szN 0)) [.func (.func (addsId x.f2)) #[] #[]] := ro1 (by
        rw [Addr.add_lit, show 0 + x.f2.toNat * szN 0 = x.f2.toNat by simp [szN]]
        exact hglob x.f2 hx2.1 hx2.2)
      have hupd := stH_upd (f := storeF (m.take k)) (f' := storeF (m.take (k + 1))) hb1 hnd (fun id hne => by rw [hsucc, if_neg (fun e => hne e.symm)])
      rw [hsucc x.f1, if_pos rfl] at hupd
      with_reducible refine xc_skip ?_
      with_reducible repeat (first | refine xq_then ?_ | refine xq_blockN ?_ | refine xq_scopeN ?_)
      refine xc_sub (η' := (b11, true, cel (movV x) 54) :: (b16, true, hmap (stM L)) :: stH (storeF (m.take k)) L) (by repeat (first | exact List.Sublist.refl _ | apply List.Sublist.cons_cons | apply List.Sublist.cons | exact List.nil_sublist _)) ?_
      with_reducible repeat refine xc_seq ?_
      apply xc_drawE (fun g => []) (fun (η0 : Hp) g => match g with | [] => (η0) | a0 :: _ => ((b11, true, cel (movV x) 54) :: (b16, true, hmap (stM L)) :: stH (storeF (m.take (k + 1))) L)) (fun _ => True) [0, 0, 0, 0, 0, 0, 0, 1] [7] [[3, 4, 6]] (by trivial)
      apply SameLen.cons
      apply SameLen.cons
      apply SameLen.cons
      apply SameLen.cons
      apply SameLen.cons
      apply SameLen.cons
      apply SameLen.cons
      apply SameLen.cons
      exact SameLen.nil
      rotate_left 8
      case hH0 => rfl
      case hmix => exact T_.mixed
      case hbind => rfl
      case hdeps => rfl
      case hdist => rfl
      case hfresh => rfl
      case hE => rfl
      case hEn => decide
      · refine DrawE.pure 0 1 rfl (.inl rfl) (fun L g hg hd => Nat.zero_le _) (fun g hlo hhi hF τ => ?_) ?_
        · rcases g with _ | ⟨a0, _ | ⟨a1, g⟩⟩
          all_goals first
            | (exfalso; simp only [List.length_cons, List.length_nil] at hlo hhi; omega)
            | (refine ⟨_, rfl, ?_⟩
               refine xo_fa T_ rfl rfl rfl rfl rfl ?_
               exact xo_fin rfl)
        refine DrawE.pure 0 1 rfl (.inl rfl) (fun L g hg hd => Nat.zero_le _) (fun g hlo hhi hF τ => ?_) ?_
        · rcases g with _ | ⟨a0, _ | ⟨a1, g⟩⟩
          all_goals first
            | (exfalso; simp only [List.length_cons, List.length_nil] at hlo hhi; omega)
            | (refine ⟨_, rfl, ?_⟩
               refine xo_load0 T_ rfl rfl rfl (by repeat (first | exact List.Mem.head _ | apply List.Mem.tail | apply List.mem_append_right)) rfl rfl ?_
               exact xo_fin rfl)
        refine DrawE.pure 0 1 rfl (.inl rfl) (fun L g hg hd => Nat.zero_le _) (fun g hlo hhi hF τ => ?_) ?_
        · rcases g with _ | ⟨a0, _ | ⟨a1, g⟩⟩
          all_goals first
            | (exfalso; simp only [List.length_cons, List.length_nil] at hlo hhi; omega)
            | (refine ⟨_, rfl, ?_⟩
               refine xo_iaA T_ rfl Tryd.underlying107 rfl rfl rfl ⟨by omega, by omega⟩ rfl ?_
               exact xo_fin rfl)
        refine DrawE.pure 0 0 rfl (.inr (by decide)) (fun L g hg hd => Nat.zero_le _) (fun g hlo hhi hF τ => ?_) ?_
        · rcases g with _ | ⟨a0, _ | ⟨a1, g⟩⟩
          all_goals first
            | (exfalso; simp only [List.length_cons, List.length_nil] at hlo hhi; omega)
            | (refine ⟨_, rfl, ?_⟩
               refine xo_loadR0 T_ rfl rfl rfl hrg rfl ?_
               exact xo_fin rfl)
        refine DrawE.pure 0 0 rfl (.inr (by decide)) (fun L g hg hd => Nat.zero_le _) (fun g hlo hhi hF τ => ?_) ?_
        · rcases g with _ | ⟨a0, _ | ⟨a1, g⟩⟩
          all_goals first
            | (exfalso; simp only [List.length_cons, List.length_nil] at hlo hhi; omega)
            | (refine ⟨_, rfl, ?_⟩
               refine xo_mv rfl rfl rfl ?_
               exact xo_fin rfl)
        refine DrawE.pure 0 1 rfl (.inl rfl) (fun L g hg hd => Nat.zero_le _) (fun g hlo hhi hF τ => ?_) ?_
        · rcases g with _ | ⟨a0, _ | ⟨a1, g⟩⟩
          all_goals first
            | (exfalso; simp only [List.length_cons, List.length_nil] at hlo hhi; omega)
            | (refine ⟨_, rfl, ?_⟩
               refine xo_fa T_ rfl rfl rfl rfl rfl ?_
               exact xo_fin rfl)
        refine DrawE.pure 0 0 rfl (.inr (by decide)) (fun L g hg hd => Nat.zero_le _) (fun g hlo hhi hF τ => ?_) ?_
        · rcases g with _ | ⟨a0, _ | ⟨a1, g⟩⟩
          all_goals first
            | (exfalso; simp only [List.length_cons, List.length_nil] at hlo hhi; omega)
            | (refine ⟨_, rfl, ?_⟩
               refine xo_load0 T_ rfl rfl rfl (by repeat (first | exact List.Mem.head _ | apply List.Mem.tail | apply List.mem_append_right)) rfl rfl ?_
               exact xo_fin rfl)
        refine DrawE.eff 0 rfl (by decide) rfl (fun j hj => hj) (fun j g a hj => ?_) (fun L g hg hd => Nat.zero_le _) (fun g hgl hF τ => ?_) ?_
        · rcases j with _ | _ | _ | _ | _ | _ | _ | _ | j
          all_goals first | rfl | (rcases g with _ | ⟨a0, _ | ⟨a1, g⟩⟩ <;> first | rfl | exact absurd hj (by decide) | exact absurd hj (by simp [List.getD]))
        · obtain rfl : g = [] := by
            rcases g with _ | ⟨a0, g⟩ <;> first | rfl | (exfalso; simp only [List.length_cons, List.length_nil] at hgl; omega)
          refine xo_call (fs := []) (cs := []) rfl rfl rfl (adds_enters hx2) rfl (fun w1 hw1 => ?_)
          obtain ⟨o1, ho1, ho2⟩ := hw1.bl _ (List.Mem.tail _ (List.Mem.tail _ (stH_mem hb1)))
          refine (adds_calls hx2 _ _ x.f3 (hSB x.f1) (by omega) ⟨by omega, by omega⟩ b w1 o1 ho1 ho2).mono ?_
          rintro e w2 ⟨rfl, hk3, o3, ho3, ho4⟩
          refine ⟨_, _, rfl, hw1.updK (Upd.tail (Upd.tail hupd)) hk3 ho3 ho4, ?_⟩
          exact xo_finE gv0 rfl trivial
        exact DrawE.nil
      intro g hgl hF
      obtain ⟨a0, rfl⟩ : ∃ a0, g = [a0] := by
        rcases g with _ | ⟨a0, _ | ⟨a1, g⟩⟩ <;> first | exact ⟨_, rfl⟩ | (exfalso; simp only [List.length_cons, List.length_nil] at hgl; omega)
      with_reducible repeat (first | refine xq_then ?_ | refine xq_blockN ?_ | refine xq_scopeN ?_)
      with_reducible repeat refine xc_seq ?_
      with_reducible refine xc_region ?_
      refine xo_fa T_ rfl rfl rfl rfl rfl ?_
      refine xo_load0 T_ rfl rfl rfl (by repeat (first | exact List.Mem.head _ | apply List.Mem.tail | apply List.mem_append_right)) rfl rfl ?_
      refine xo_asg rfl rfl rfl ?_
      with_reducible refine xo_nil ?_
      with_reducible repeat (first | refine xq_then ?_ | refine xq_blockN ?_ | refine xq_scopeN ?_)
      with_reducible repeat refine xc_seq ?_
      with_reducible refine xc_region ?_
      refine xo_add rfl rfl rfl (by omega) rfl ?_
      refine xo_mv rfl rfl rfl ?_
      with_reducible refine xo_nil ?_
      with_reducible repeat (first | refine xq_then ?_ | refine xq_blockN ?_ | refine xq_scopeN ?_)
      refine xq_again _ _ _ _ _ (k + 1, x.f0) ⟨hlt, by simp only; omega, by simp only; omega, hx0.2, ?_, fun y hy => ?_⟩ (by first | omega | (simp only; omega)) ⟨rfl, rfl, rfl, rfl, rfl, trivial⟩ (by repeat (first | exact List.Sublist.refl _ | apply List.Sublist.cons_cons | apply List.Sublist.cons | exact List.nil_sublist _))
      · rw [hmv]
        simp only [hbin, h1, h2, h3, h4, Bool.not_false, Bool.true_and, Bool.and_self]
        rfl
      · rcases htake y hy with hy | rfl
        · exact hpc y hy
        · exact hx3
  have hge : ¬ k < m.length := by have := of_decide_eq_false h; omega
  rw [List.take_of_length_le (by omega)]
  rw [List.drop_of_length_le (by omega), movesL] at hmv
  with_reducible refine xc_exit ?_
  with_reducible repeat (first | refine xq_blockX ?_ | refine xq_thenE ?_ | refine xq_blockE rfl ?_ | refine xq_scopeE ?_)
  with_reducible repeat (first | refine xq_then ?_ | refine xq_blockN ?_ | refine xq_scopeN ?_)
  with_reducible repeat refine xc_seq ?_
  with_reducible refine xc_region ?_
  refine xo_mv rfl rfl rfl ?_
  refine xo_rangeM T_ rfl rfl rfl (by repeat (first | exact List.Mem.head _ | apply List.Mem.tail | apply List.mem_append_right)) (fun es c => Rep.head) rfl (fun b88 es cl hE => ?_)
  with_reducible refine xo_nil ?_
  with_reducible repeat (first | refine xq_then ?_ | refine xq_blockN ?_ | refine xq_scopeN ?_)
  with_reducible repeat refine xc_seq ?_
  with_reducible refine xc_block ?_
  refine xc_loop (γ := Array Nat) (fun q => ∀ e ∈ es.toList, q.contains e.born = true → ∀ id, e.key = .int .i64 id → okS (storeF m id) = true) (fun q => [(6, .map (some b16)), (88, .pointer (some ⟨b88, 0, none⟩))])
    (fun q => (b88, true, hiter b16 cl q) :: (b16, true, hmapE es cl) :: stH (storeF m) L) (fun q => unseen es q) #[] (fun e _ h => by simp at h) ⟨rfl, rfl, trivial⟩ (by repeat (first | exact List.Sublist.refl _ | apply List.Sublist.cons_cons | apply List.Sublist.cons | exact List.nil_sublist _)) ?_
  intro seen hseen
  with_reducible repeat refine xc_seq ?_
  with_reducible refine xc_region ?_
  refine xo_next rfl rfl (by repeat (first | exact List.Mem.head _ | apply List.Mem.tail | apply List.mem_append_right)) (by repeat (first | exact List.Mem.head _ | apply List.Mem.tail | apply List.mem_append_right)) hE (fun seen' => Upd.head) rfl (fun hall => ?_) (fun e he hns => ?_)
  · have hcnt : countF r m = true := by
      rw [countF, hmv, Bool.true_and, List.all_eq_true]
      intro id hid
      rw [← hL] at hid
      obtain ⟨p, hp, rfl⟩ := List.mem_map.1 hid
      obtain ⟨e, he, hke⟩ := hE.stM' hp
      exact hseen e he (hall e he) _ hke
    refine xo_ext rfl rfl rfl rfl ?_
    with_reducible refine xo_nil ?_
    with_reducible repeat (first | refine xq_then ?_ | refine xq_blockN ?_ | refine xq_scopeN ?_)
    with_reducible repeat refine xc_seq ?_
    refine xc_condF rfl ?_
    with_reducible refine xc_exit ?_
    with_reducible repeat (first | refine xq_blockX ?_ | refine xq_thenE ?_ | refine xq_blockE rfl ?_ | refine xq_scopeE ?_)
    refine xq_rep (b := b16) (by repeat (first | exact List.Mem.head _ | apply List.Mem.tail | apply List.mem_append_right)) (fun o h => hmapE_hmap hE h) (Rep.tail Rep.head) ?_
    with_reducible repeat (first | refine xq_then ?_ | refine xq_blockN ?_ | refine xq_scopeN ?_)
    with_reducible repeat refine xc_seq ?_
    with_reducible refine xc_region ?_
    refine xo_mv rfl rfl rfl ?_
    refine xo_asg rfl rfl rfl ?_
    refine xo_asg rfl rfl rfl ?_
    with_reducible refine xo_nil ?_
    with_reducible repeat (first | refine xq_then ?_ | refine xq_blockN ?_ | refine xq_scopeN ?_)
    with_reducible repeat refine xc_seq ?_
    with_reducible refine xc_ret ?_
    with_reducible repeat (first | refine xq_thenR ?_ | refine xq_blockR ?_ | refine xq_scopeR ?_)
    exact xq_ret2 rfl rfl rfl fun w' hw => .inr ⟨hcnt, b16, L, rfl, hL, hw.sub (List.sublist_cons_self _ _)⟩
  · obtain ⟨p, hp, hk1, hk2⟩ := hE.stM he
    obtain ⟨id, b⟩ := p
    simp only at hk1 hk2
    have hbad : okS (storeF m id) = false → countF r m = false := fun h => by
      rw [countF, Bool.and_eq_false_iff]
      right
      rw [List.all_eq_false]
      exact ⟨id, by rw [← hL]; exact List.mem_map.2 ⟨_, hp, rfl⟩, by rw [h]; simp⟩
    rw [hk1, hk2]
    refine xo_ext rfl rfl rfl rfl ?_
    with_reducible refine xo_nil ?_
    with_reducible repeat (first | refine xq_then ?_ | refine xq_blockN ?_ | refine xq_scopeN ?_)
    with_reducible repeat refine xc_seq ?_
    refine xc_condT rfl ?_
    with_reducible refine xc_skip ?_
    with_reducible repeat (first | refine xq_then ?_ | refine xq_blockN ?_ | refine xq_scopeN ?_)
    with_reducible repeat refine xc_seq ?_
    with_reducible refine xc_block ?_
    with_reducible repeat refine xc_seq ?_
    with_reducible refine xc_region ?_
    refine xo_entry rfl rfl (by repeat (first | exact List.Mem.head _ | apply List.Mem.tail | apply List.mem_append_right)) (by repeat (first | exact List.Mem.head _ | apply List.Mem.tail | apply List.mem_append_right)) hE he rfl ?_
    rw [hk1, hk2]
    refine xo_ext rfl rfl rfl rfl ?_
    refine xo_asg rfl rfl rfl ?_
    with_reducible refine xo_nil ?_
    with_reducible repeat (first | refine xq_then ?_ | refine xq_blockN ?_ | refine xq_scopeN ?_)
    cases h5 : decide ((storeF m id).d < (storeF m id).b) <;> cases h6 : decide ((storeF m id).l < 0)
    all_goals
      with_reducible repeat refine xc_seq ?_
      apply xc_drawN
      · exact T_.mixed
      · rfl
      · rfl
      · rfl
      · rfl
      · apply DrawOps.cons
        · intro τ
          refine xo_mv rfl rfl rfl ?_
          exact xo_fin rfl
        apply DrawOps.cons
        · intro τ
          refine xo_nilck rfl rfl rfl ?_
          exact xo_fin rfl
        apply DrawOps.cons
        · intro τ
          refine xo_fa T_ rfl rfl rfl rfl rfl ?_
          exact xo_fin rfl
        apply DrawOps.cons
        · intro τ
          refine xo_load0 T_ rfl rfl rfl (List.Mem.tail _ (List.Mem.tail _ (stH_mem hp))) rfl rfl ?_
          exact xo_fin rfl
        apply DrawOps.cons
        · intro τ
          refine xo_mv rfl rfl rfl ?_
          exact xo_fin rfl
        apply DrawOps.cons
        · intro τ
          refine xo_nilck rfl rfl rfl ?_
          exact xo_fin rfl
        apply DrawOps.cons
        · intro τ
          refine xo_fa T_ rfl rfl rfl rfl rfl ?_
          exact xo_fin rfl
        apply DrawOps.cons
        · intro τ
          refine xo_load0 T_ rfl rfl rfl (List.Mem.tail _ (List.Mem.tail _ (stH_mem hp))) rfl rfl ?_
          exact xo_fin rfl
        apply DrawOps.cons
        · intro τ
          refine xo_gtr rfl rfl rfl rfl ?_
          first
            | exact xo_fin (congrArg Value.bool h5)
            | exact xo_fin rfl
        apply DrawOps.cons
        · intro τ
          refine xo_mv rfl rfl rfl ?_
          exact xo_fin rfl
        apply DrawOps.cons
        · intro τ
          first
            | refine xo_not rfl rfl ?_
            | (refine xo_mv rfl rfl rfl ?_)
          exact xo_fin rfl
        apply DrawOps.cons
        · intro τ
          first
            | refine xo_not rfl rfl ?_
            | (refine xo_nilck rfl rfl rfl ?_)
          exact xo_fin rfl
        apply DrawOps.cons
        · intro τ
          first
            | refine xo_not rfl rfl ?_
            | (refine xo_fa T_ rfl rfl rfl rfl rfl ?_)
          exact xo_fin rfl
        apply DrawOps.cons
        · intro τ
          first
            | refine xo_not rfl rfl ?_
            | (refine xo_load0 T_ rfl rfl rfl (List.Mem.tail _ (List.Mem.tail _ (stH_mem hp))) rfl rfl ?_)
          exact xo_fin rfl
        apply DrawOps.cons
        · intro τ
          first
            | refine xo_not rfl rfl ?_
            | (refine xo_lss rfl rfl rfl rfl ?_)
          first
            | exact xo_fin (congrArg Value.bool h6)
            | exact xo_fin rfl
        apply DrawOps.cons
        · intro τ
          first | refine xo_pickT rfl rfl rfl rfl ?_ | refine xo_pickF rfl rfl rfl rfl ?_
          exact xo_fin rfl
        exact DrawOps.nil
      · rfl
      with_reducible repeat (first | refine xq_then ?_ | refine xq_blockN ?_ | refine xq_scopeN ?_)
      with_reducible repeat refine xc_seq ?_
      first | refine xc_condT rfl ?_ | refine xc_condF rfl ?_
    rotate_left
    iterate 3
      · with_reducible repeat refine xc_seq ?_
        with_reducible refine xc_region ?_
        refine xo_asg rfl rfl rfl ?_
        refine xo_asg rfl rfl rfl ?_
        with_reducible refine xo_nil ?_
        with_reducible repeat (first | refine xq_then ?_ | refine xq_blockN ?_ | refine xq_scopeN ?_)
        with_reducible repeat refine xc_seq ?_
        with_reducible refine xc_ret ?_
        with_reducible repeat (first | refine xq_thenR ?_ | refine xq_blockR ?_ | refine xq_scopeR ?_)
        exact xq_ret2 rfl rfl rfl fun w' hw => .inl ⟨hbad (by rw [okS, h5, h6]; rfl), rfl, hw.kx.below⟩
    with_reducible refine xc_skip ?_
    with_reducible repeat (first | refine xq_then ?_ | refine xq_blockN ?_ | refine xq_scopeN ?_)
    refine xq_again _ _ _ _ _ (seen.push e.born) (fun e' he' hc id' hid' => ?_) (unseen_lt he hns) ⟨rfl, rfl, trivial⟩ (by repeat (first | exact List.Sublist.refl _ | apply List.Sublist.cons_cons | apply List.Sublist.cons | exact List.nil_sublist _))
    simp at hc
    rcases hc with hc | hc
    · exact hseen e' he' (by simpa using hc) id' hid'
    · have hee : e' = e := once_eq hE he' he hc
      subst hee
      rw [hk1] at hid'
      injection hid' with _ hid'
      subst hid'
      rw [okS, h5, h6]
      rfl
theorem count_enters : ∀ args w, (callFunc 42 args).run Tryd.prog w = .ok (.enter 42 args) w := enters_of Tryd.func42 (by kernel_rfl) rfl
end Go.Proofs.YtcmepdamemnbkaaDoor
namespace Go.Proofs.YtcmepdamemnbkaaDoor
open Go.RowKit Go.Proofs.YtcmepdamemnbkaaDoorW.PrintWords
set_option linter.unusedVariables false
set_option linter.unusedSimpArgs false
theorem eqSt (d : Nat) (w : World) (x y : StT) :
    (Op.equalIn (d + 2) 27 (.agg (stV x).toArray) (.agg (stV y).toArray)).run Tryd.prog w = .ok (x.a == y.a && (x.b == y.b && (x.c == y.c && (x.d == y.d && (x.e == y.e && (x.l == y.l)))))) w := by
  refine eqA_of Tryd.underlying27 (by kernel_rfl) ?_
  refine eqf_cons (by rfl) (by go_simp; rfl) (by go_simp; rfl) (by go_simp) ?_
  refine eqf_cons (by rfl) (by go_simp; rfl) (by go_simp; rfl) (by go_simp) ?_
  refine eqf_cons (by rfl) (by go_simp; rfl) (by go_simp; rfl) (by go_simp) ?_
  refine eqf_cons (by rfl) (by go_simp; rfl) (by go_simp; rfl) (by go_simp) ?_
  refine eqf_cons (by rfl) (by go_simp; rfl) (by go_simp; rfl) (by go_simp) ?_
  exact eqf_last (by rfl) (by go_simp; rfl) (by go_simp; rfl) (by go_simp)
def stEq (x y : StT) : Bool := x.a == y.a && (x.b == y.b && (x.c == y.c && (x.d == y.d && (x.e == y.e && (x.l == y.l)))))
theorem stEq_iff {x y : StT} : stEq x y = true ↔ x = y := by
  unfold stEq
  simp only [Bool.and_eq_true, beq_iff_eq]
  constructor
  · rintro ⟨h1, h2, h3, h4, h5, h6⟩
    obtain ⟨a, b, c, d, e, l⟩ := x
    obtain ⟨a', b', c', d', e', l'⟩ := y
    simp only at h1 h2 h3 h4 h5 h6
    subst h1 h2 h3 h4 h5 h6
    rfl
  · rintro rfl
    exact ⟨rfl, rfl, rfl, rfl, rfl, rfl⟩
section
variable {ro : Option Nat} {n N : Nat} {ds : List Deferred} {w0 : World} {X : Nat → Prop} {Q : Exit → Act → World → Prop} {σ : Slots} {η : Hp} {ops rest : List Oper} {d : Option Tmp} {ty pos aft} {g : Option (Nat × Bool)}
attribute [local go_sem high] eqSt
theorem xo_neqSt {u v : Operand} {t' : TypeId} {a b : StT} (hg : gS ops σ g = some true) (hx : ev σ u = some (.agg (stV a).toArray)) (hy : ev σ v = some (.agg (stV b).toArray)) (hN : dstOK N d = true)
    (h : XO Tryd.prog ro n N ds w0 X Q ops (putS d (.bool (!stEq a b)) σ) η rest) : XO Tryd.prog ro n N ds w0 X Q ops σ η (⟨d, .binOp .neq 27 u v t', ty, pos, aft, g⟩ :: rest) :=
  xo_val _ rfl hg hN (fun _ w ha hw => by
    simp only [execOp, ha.ev hx, ha.ev hy, stEq]
    go_simp) h
theorem xo_eqlSt {u v : Operand} {t' : TypeId} {a b : StT} (hg : gS ops σ g = some true) (hx : ev σ u = some (.agg (stV a).toArray)) (hy : ev σ v = some (.agg (stV b).toArray)) (hN : dstOK N d = true)
    (h : XO Tryd.prog ro n N ds w0 X Q ops (putS d (.bool (stEq a b)) σ) η rest) : XO Tryd.prog ro n N ds w0 X Q ops σ η (⟨d, .binOp .eql 27 u v t', ty, pos, aft, g⟩ :: rest) :=
  xo_val _ rfl hg hN (fun _ w ha hw => by
    simp only [execOp, ha.ev hx, ha.ev hy, stEq]
    go_simp) h
end
/-- what Pieces answers -/
def addS (s t : StT) : StT := ⟨s.a + t.a, s.b + t.b, s.c + t.c, s.d + t.d, s.e + t.e, s.l + t.l⟩
theorem addS_zero (s : StT) : addS s st0 = s := by simp [addS, st0]
def wayP (id : Int) (come : List Int) (way : List Int) : Bool := way.any fun n => decide (n = id) || decide (n ∈ come)
def fromF (id : Int) (come : List Int) (x : RecT) : Bool := decide (x.f0 = id) || x.f2.any (wayP id come)
def piecesL (m : List MovT) (id : Int) : List Int → StT → List RecT → StT
  | _, s, [] => s
  | come, s, x :: r => if fromF id come x && decide (x.f1 = 3) then piecesL m id (insN x.f0 come) (addS s (storeF m x.f0)) r else piecesL m id come s r
def piecesC (r : List RecT) (m : List MovT) (id : Int) : Int := if recordedF r then (if countF r m then (if knownF r id then 0 else 6) else 82) else 80
def piecesR (r : List RecT) (m : List MovT) (id : Int) : StT := if piecesC r m id = 0 then piecesL m id [] st0 r else st0
theorem StB.add {s t : StT} {B C : Int} (h : StB s B) (k : StB t C) : StB (addS s t) (B + C) := by
  unfold StB addS at *
  simp only at *
  omega
theorem batch_mem {r : List RecT} (hs : SortedIds r) {k : Nat} (hk : k < r.length) : decide ((r.getD k zRec).f0 ∈ batchesF r) = decide ((r.getD k zRec).f1 = 3) := by
  rw [decide_eq_decide]
  constructor
  · intro h
    simp only [batchesF, List.mem_map, List.mem_filter, decide_eq_true_eq] at h
    obtain ⟨x, ⟨h1, h2⟩, h3⟩ := h
    obtain ⟨j, hj, rfl⟩ := List.getElem_of_mem h1
    have e1 : r[j] = r.getD j zRec := by simp [List.getD_eq_getElem?_getD, List.getElem?_eq_getElem hj]
    have := sorted_inj hs hj hk (by rw [idAt, idAt, ← e1]; exact h3)
    subst this
    rw [← e1]
    exact h2
  · intro h
    simp only [batchesF, List.mem_map, List.mem_filter, decide_eq_true_eq]
    exact ⟨_, ⟨getD_mem r zRec k hk, h⟩, rfl⟩
theorem count_B {r : List RecT} {m : List MovT} (h : countF r m = true) (id : Int) : StB (storeF m id) 4000000 := by
  rw [countF, Bool.and_eq_true] at h
  have h1 := movesL_mem m _ _ h.1
  have h2 := movesL_len m _ _ h.1
  refine (storeF_B (fun x hx => (h1 x hx).2.2) id).mono ?_
  rcases h2 with h2 | rfl
  · omega
  · simp
theorem pieces1_calls (x id : Int) (S : List Int) (b5 b10 M : Nat) (w : World) (h5 : w.cell? ⟨b5, 0, none⟩ = some (.int .i64 id)) (h10 : w.cell? ⟨b10, 0, none⟩ = some (.map (some M))) (hM : IMap w M (setV S)) :
    Calls Tryd.prog 45 #[.int .i64 x, .pointer (some ⟨b5, 0, none⟩), .pointer (some ⟨b10, 0, none⟩)] w fun e w' => e = .returned (.bool (decide (x = id) || decide (x ∈ S))) ∧ Below w.heap.size w w' := by
  have r1 := ro1 h5
  have r2 := ro1 h10
  refine x_callsH (X := XNone) Tryd.func45 rfl rfl rfl (WOK.startM XNone hM) ?_
  with_reducible repeat refine xc_seq ?_
  with_reducible refine xc_region ?_
  refine xo_asg rfl rfl rfl ?_
  with_reducible refine xo_nil ?_
  with_reducible repeat (first | refine xq_then ?_ | refine xq_blockN ?_ | refine xq_scopeN ?_)
  cases h : decide (x = id)
  all_goals
    with_reducible repeat refine xc_seq ?_
    with_reducible refine xc_region ?_
    refine xo_mv rfl rfl rfl ?_
    refine xo_loadR0 T_ rfl rfl rfl (by first | assumption | exact RO.fld (by assumption) rfl) rfl ?_
    refine xo_eql rfl rfl rfl rfl ?_
    refine xo_mv rfl rfl rfl ?_
    refine xo_as (i := 8) rfl (congrArg Value.bool h) ?_
    first
      | refine xo_not rfl rfl ?_
      | (refine xo_loadR0 T_ rfl rfl rfl (by first | assumption | exact RO.fld (by assumption) rfl) rfl ?_)
    first
      | refine xo_not rfl rfl ?_
      | (refine xo_mv rfl rfl rfl ?_)
    first
      | refine xo_not rfl rfl ?_
      | (refine xo_sget T_ rfl rfl rfl rfl rfl rfl (by repeat (first | exact List.Mem.head _ | apply List.Mem.tail | apply List.mem_append_right)) rfl ?_)
    first | refine xo_pickT rfl rfl rfl rfl ?_ | refine xo_pickF rfl rfl rfl rfl ?_
    refine xo_asg rfl rfl rfl ?_
    with_reducible refine xo_nil ?_
    with_reducible repeat (first | refine xq_then ?_ | refine xq_blockN ?_ | refine xq_scopeN ?_)
    with_reducible repeat refine xc_seq ?_
    with_reducible refine xc_ret ?_
    with_reducible repeat (first | refine xq_thenR ?_ | refine xq_blockR ?_ | refine xq_scopeR ?_)
    exact xq_ret1 rfl rfl fun w' hw => ⟨rfl, hw.kx.below⟩
theorem pieces1_enters : ∀ args w, (callFunc 45 args).run Tryd.prog w = .ok (.enter 45 args) w := enters_of Tryd.func45 (by kernel_rfl) rfl
theorem containsFn_enters : ∀ args w, (callFunc 44 args).run Tryd.prog w = .ok (.enter 44 args) w := enters_of Tryd.func44 (by kernel_rfl) rfl
theorem take_any {α : Type} (p : α → Bool) (xs : List α) (z : α) (k : Nat) (hk : k < xs.length) : (xs.take (k + 1)).any p = ((xs.take k).any p || p (xs.getD k z)) := by
  rw [List.take_succ_eq_append_getElem hk, List.any_append]
  simp [List.getD_eq_getElem?_getD, List.getElem?_eq_getElem hk]
set_option maxHeartbeats 16000000 in
theorem pieces_calls (A B : Option Addr) (c c' : Nat) (r : List RecT) (m : List MovT) (id : Int) (w : World) (hr : Kd.C recK w A r.length r) (hm : Kd.C movK w B m.length m) (hk : Bytes r) (hkm : BytesM m) (hglob : GlobOK w) :
    Calls Tryd.prog 13 #[.slice A r.length c, .slice B m.length c', .int .i64 id] w fun e w' => e = .returned (.tuple #[.agg (stV (piecesR r m id)).toArray, .int .i64 (piecesC r m id)]) ∧ Below w.heap.size w w' := by
  have hn := hr.2.1
  refine x_calls (X := XNone) Tryd.func13 rfl rfl rfl ?_
  with_reducible repeat refine xc_seq ?_
  with_reducible refine xc_region ?_
  refine xo_box rfl rfl rfl rfl (fun b5 => ?_)
  refine xo_alloc T_ rfl rfl rfl rfl (fun b6 => ?_)
  refine xo_asg rfl rfl rfl ?_
  with_reducible refine xo_nil ?_
  with_reducible repeat (first | refine xq_then ?_ | refine xq_blockN ?_ | refine xq_scopeN ?_)
  with_reducible repeat refine xc_seq ?_
  with_reducible refine xc_region ?_
  refine xo_mv rfl rfl rfl ?_
  refine xo_callB (fs := []) (cs := []) rfl rfl rfl recorded_enters rfl (fun w1 hw1 => recorded_calls A c r w1 (Kd.C_below hr hw1.kx.below) hk) ?_
  refine xo_notOp rfl rfl rfl ?_
  with_reducible refine xo_nil ?_
  with_reducible repeat (first | refine xq_then ?_ | refine xq_blockN ?_ | refine xq_scopeN ?_)
  with_reducible repeat refine xc_seq ?_
  refine xc_cond rfl (fun hrec => ?_) (fun hrec => ?_)
  · simp only [Bool.not_eq_true'] at hrec
    have e1 : piecesC r m id = 80 := by rw [piecesC, hrec]; rfl
    have e2 : piecesR r m id = st0 := by rw [piecesR, e1]; rfl
    with_reducible repeat refine xc_seq ?_
    with_reducible refine xc_region ?_
    refine xo_build TB_ rfl rfl rfl rfl rfl ?_
    refine xo_store T_ rfl rfl rfl rfl (by repeat (first | exact List.Mem.head _ | apply List.Mem.tail | apply List.mem_append_right)) rfl rfl rfl rfl (by repeat (first | exact Upd.head | apply Upd.tail | apply Upd.app)) rfl ?_
    refine xo_asg rfl rfl rfl ?_
    with_reducible refine xo_nil ?_
    with_reducible repeat (first | refine xq_then ?_ | refine xq_blockN ?_ | refine xq_scopeN ?_)
    with_reducible repeat refine xc_seq ?_
    with_reducible refine xc_ret ?_
    with_reducible repeat (first | refine xq_thenR ?_ | refine xq_blockR ?_ | refine xq_scopeR ?_)
    exact xq_retC1 T_ rfl rfl rfl rfl (by repeat (first | exact List.Mem.head _ | apply List.Mem.tail | apply List.mem_append_right)) rfl fun w' hw => ⟨by rw [e1, e2]; rfl, hw.kx.below⟩
  simp only [Bool.not_eq_false'] at hrec
  have hs := sorted_of hrec
  have hlen := recorded_len hrec
  with_reducible refine xc_skip ?_
  with_reducible repeat (first | refine xq_then ?_ | refine xq_blockN ?_ | refine xq_scopeN ?_)
  cases hcf : countF r m
  · have e1 : piecesC r m id = 82 := by rw [piecesC, hrec, hcf]; rfl
    have e2 : piecesR r m id = st0 := by rw [piecesR, e1]; rfl
    with_reducible repeat refine xc_seq ?_
    with_reducible refine xc_region ?_
    refine xo_mv rfl rfl rfl ?_
    refine xo_mv rfl rfl rfl ?_
    refine xo_call (fs := []) (cs := []) rfl rfl rfl count_enters rfl (fun w1 hw1 => (count_calls A B c c' r m w1 (Kd.C_below hr hw1.kx.below) (Kd.C_below hm hw1.kx.below) hkm hs (by omega) (hglob.below hw1.kx.below)).mono ?_)
    rintro e w2 (⟨_, rfl, hb⟩ | ⟨h, _⟩)
    rotate_left
    · rw [hcf] at h; cases h
    refine ⟨_, _, rfl, hw1.below hb, ?_⟩
    clear hb hw1
    refine xo_mv rfl rfl rfl ?_
    refine xo_ext rfl rfl rfl rfl ?_
    refine xo_ext rfl rfl rfl rfl ?_
    refine xo_asg rfl rfl rfl ?_
    refine xo_asg rfl rfl rfl ?_
    with_reducible refine xo_nil ?_
    with_reducible repeat (first | refine xq_then ?_ | refine xq_blockN ?_ | refine xq_scopeN ?_)
    with_reducible repeat refine xc_seq ?_
    with_reducible refine xc_block ?_
    with_reducible repeat refine xc_seq ?_
    with_reducible refine xc_region ?_
    refine xo_mv rfl rfl rfl ?_
    refine xo_notOp rfl rfl rfl ?_
    refine xo_asg rfl rfl rfl ?_
    with_reducible refine xo_nil ?_
    with_reducible repeat (first | refine xq_then ?_ | refine xq_blockN ?_ | refine xq_scopeN ?_)
    with_reducible repeat refine xc_seq ?_
    refine xc_condT rfl ?_
    with_reducible repeat refine xc_seq ?_
    with_reducible refine xc_region ?_
    refine xo_build TB_ rfl rfl rfl rfl rfl ?_
    refine xo_store T_ rfl rfl rfl rfl (by repeat (first | exact List.Mem.head _ | apply List.Mem.tail | apply List.mem_append_right)) rfl rfl rfl rfl (by repeat (first | exact Upd.head | apply Upd.tail | apply Upd.app)) rfl ?_
    refine xo_asg rfl rfl rfl ?_
    with_reducible refine xo_nil ?_
    with_reducible repeat (first | refine xq_then ?_ | refine xq_blockN ?_ | refine xq_scopeN ?_)
    with_reducible repeat refine xc_seq ?_
    with_reducible refine xc_ret ?_
    with_reducible repeat (first | refine xq_thenR ?_ | refine xq_blockR ?_ | refine xq_scopeR ?_)
    exact xq_retC1 T_ rfl rfl rfl rfl (by repeat (first | exact List.Mem.head _ | apply List.Mem.tail | apply List.mem_append_right)) rfl fun w' hw => ⟨by rw [e1, e2]; rfl, hw.kx.below⟩
  with_reducible repeat refine xc_seq ?_
  with_reducible refine xc_region ?_
  refine xo_mv rfl rfl rfl ?_
  refine xo_mv rfl rfl rfl ?_
  refine xo_call (fs := []) (cs := []) rfl rfl rfl count_enters rfl (fun w1 hw1 => (count_calls A B c c' r m w1 (Kd.C_below hr hw1.kx.below) (Kd.C_below hm hw1.kx.below) hkm hs (by omega) (hglob.below hw1.kx.below)).mono ?_)
  rintro e w2 (⟨h, _⟩ | ⟨_, M, L, rfl, hL, hz⟩)
  · rw [hcf] at h; cases h
  refine ⟨_, _, rfl, hw1.join hz (fun e he => (List.mem_cons.1 he).elim (fun q => by rw [q]) (stH_true e)), ?_⟩
  clear hz hw1
  refine xo_mv rfl rfl rfl ?_
  refine xo_ext rfl rfl rfl rfl ?_
  refine xo_ext rfl rfl rfl rfl ?_
  refine xo_asg rfl rfl rfl ?_
  refine xo_asg rfl rfl rfl ?_
  with_reducible refine xo_nil ?_
  with_reducible repeat (first | refine xq_then ?_ | refine xq_blockN ?_ | refine xq_scopeN ?_)
  with_reducible repeat refine xc_seq ?_
  with_reducible refine xc_block ?_
  with_reducible repeat refine xc_seq ?_
  with_reducible refine xc_region ?_
  refine xo_mv rfl rfl rfl ?_
  refine xo_notOp rfl rfl rfl ?_
  refine xo_asg rfl rfl rfl ?_
  with_reducible refine xo_nil ?_
  with_reducible repeat (first | refine xq_then ?_ | refine xq_blockN ?_ | refine xq_scopeN ?_)
  with_reducible repeat refine xc_seq ?_
  refine xc_condF rfl ?_
  with_reducible repeat refine xc_seq ?_
  with_reducible refine xc_region ?_
  refine xo_mv rfl rfl rfl ?_
  refine xo_load0 T_ rfl rfl rfl (by repeat (first | exact List.Mem.head _ | exact List.mem_append_left _ (List.Mem.head _) | apply List.mem_append_right | apply List.Mem.tail)) rfl rfl ?_
  refine xo_callB (fs := []) (cs := []) rfl rfl rfl known_enters rfl (fun w1 hw1 => known_calls A c r _ w1 (Kd.C_below hr hw1.kx.below)) ?_
  refine xo_notOp rfl rfl rfl ?_
  refine xo_asg rfl rfl rfl ?_
  with_reducible refine xo_nil ?_
  with_reducible repeat (first | refine xq_then ?_ | refine xq_blockN ?_ | refine xq_scopeN ?_)
  with_reducible repeat refine xc_seq ?_
  refine xc_cond rfl (fun hkn => ?_) (fun hkn => ?_)
  · simp only [Bool.not_eq_true'] at hkn
    have e1 : piecesC r m id = 6 := by rw [piecesC, hrec, hcf, hkn]; rfl
    have e2 : piecesR r m id = st0 := by rw [piecesR, e1]; rfl
    with_reducible repeat refine xc_seq ?_
    with_reducible refine xc_region ?_
    refine xo_build TB_ rfl rfl rfl rfl rfl ?_
    refine xo_store T_ rfl rfl rfl rfl (by repeat (first | exact List.Mem.head _ | exact List.mem_append_left _ (List.Mem.head _) | apply List.mem_append_right | apply List.Mem.tail)) rfl rfl rfl rfl (Upd.tail (Upd.app (by repeat (first | exact Upd.head | apply Upd.tail | apply Upd.app)) _)) rfl ?_
    refine xo_asg rfl rfl rfl ?_
    with_reducible refine xo_nil ?_
    with_reducible repeat (first | refine xq_then ?_ | refine xq_blockN ?_ | refine xq_scopeN ?_)
    with_reducible repeat refine xc_seq ?_
    with_reducible refine xc_ret ?_
    with_reducible repeat (first | refine xq_thenR ?_ | refine xq_blockR ?_ | refine xq_scopeR ?_)
    exact xq_retC1 T_ rfl rfl rfl rfl (by repeat (first | exact List.Mem.head _ | exact List.mem_append_left _ (List.Mem.head _) | apply List.mem_append_right | apply List.Mem.tail)) rfl fun w' hw => ⟨by rw [e1, e2]; rfl, hw.kx.below⟩
  simp only [Bool.not_eq_false'] at hkn
  have e1 : piecesC r m id = 0 := by rw [piecesC, hrec, hcf, hkn]; rfl
  have e2 : piecesR r m id = piecesL m id [] st0 r := by rw [piecesR, if_pos e1]
  with_reducible refine xc_skip ?_
  with_reducible repeat (first | refine xq_then ?_ | refine xq_blockN ?_ | refine xq_scopeN ?_)
  with_reducible repeat refine xc_seq ?_
  with_reducible refine xc_region ?_
  refine xo_mkm rfl rfl (fun b39 => ?_)
  refine xo_alloc T_ rfl rfl rfl rfl (fun b10 => ?_)
  refine xo_store T_ rfl rfl rfl rfl (by repeat (first | exact List.Mem.head _ | apply List.Mem.tail | apply List.mem_append_right)) rfl rfl rfl rfl (by repeat (first | exact Upd.head | apply Upd.tail | apply Upd.app)) rfl ?_
  with_reducible refine xo_nil ?_
  with_reducible repeat (first | refine xq_then ?_ | refine xq_blockN ?_ | refine xq_scopeN ?_)
  with_reducible repeat refine xc_seq ?_
  with_reducible refine xc_region ?_
  refine xo_alloc T_ rfl rfl rfl rfl (fun b11 => ?_)
  with_reducible refine xo_nil ?_
  with_reducible repeat (first | refine xq_then ?_ | refine xq_blockN ?_ | refine xq_scopeN ?_)
  with_reducible repeat refine xc_seq ?_
  with_reducible refine xc_region ?_
  refine xo_mv rfl rfl rfl ?_
  refine xo_len T_ rfl rfl rfl rfl ?_
  refine xo_mv rfl rfl rfl ?_
  with_reducible refine xo_nil ?_
  with_reducible repeat (first | refine xq_then ?_ | refine xq_blockN ?_ | refine xq_scopeN ?_)
  with_reducible repeat refine xc_seq ?_
  with_reducible refine xc_block ?_
  refine xc_loop (γ := Nat × List Int × StT) (fun q => q.1 ≤ r.length ∧ StB q.2.2 (4000000 * (q.1 : Int)) ∧ piecesL m id [] st0 r = piecesL m id q.2.1 q.2.2 (r.drop q.1)) (fun q => [(0, .slice A r.length c), (5, .pointer (some ⟨b5, 0, none⟩)), (6, .pointer (some ⟨b6, 0, none⟩)), (8, .map (some M)), (10, .pointer (some ⟨b10, 0, none⟩)), (11, .pointer (some ⟨b11, 0, none⟩)), (40, .slice A r.length c), (41, .int .i64 (r.length : Int)), (42, .int .i64 (q.1 : Int))])
    (fun q => (b11, true, cel (stV q.2.2) 27) :: (b10, true, cel [.map (some b39)] 62) :: (b39, true, hmap (setV q.2.1)) :: (M, true, hmap (stM L)) :: (stH (storeF m) L ++ [(b6, true, cel (stV st0) 27), (b5, true, cel [.int .i64 id] 3)])) (fun q => r.length - q.1) (0, [], st0) ⟨Nat.zero_le _, by unfold StB st0; simp, rfl⟩ ⟨rfl, rfl, rfl, rfl, rfl, rfl, rfl, rfl, rfl, trivial⟩ (by repeat (first | exact List.Sublist.refl _ | apply List.Sublist.cons_cons | apply List.Sublist.cons | exact List.nil_sublist _)) ?_
  rintro ⟨k, come, sum⟩ ⟨hk1, hsB, hpl⟩
  simp only at hk1 hsB hpl ⊢
  with_reducible repeat refine xc_seq ?_
  with_reducible refine xc_region ?_
  refine xo_lss rfl rfl rfl rfl ?_
  with_reducible refine xo_nil ?_
  with_reducible repeat (first | refine xq_then ?_ | refine xq_blockN ?_ | refine xq_scopeN ?_)
  with_reducible repeat refine xc_seq ?_
  refine xc_cond rfl (fun h => ?_) (fun h => ?_)
  · have hlt : k < r.length := by have := of_decide_eq_true h; omega
    obtain ⟨ad, A2, c2, rfl, r1, hc2, hw2⟩ := rec_at hr k hlt
    have hbm := batch_mem hs hlt
    have hn3 := hw2.2.1
    rw [drop_at r zRec k hlt, piecesL] at hpl
    generalize r.getD k zRec = x at *
    with_reducible refine xc_skip ?_
    with_reducible repeat (first | refine xq_then ?_ | refine xq_blockN ?_ | refine xq_scopeN ?_)
    with_reducible repeat refine xc_seq ?_
    with_reducible refine xc_block ?_
    with_reducible repeat refine xc_seq ?_
    with_reducible refine xc_region ?_
    refine xo_ia T_ rfl rfl rfl rfl rfl ⟨by omega, by omega⟩ rfl ?_
    refine xo_loadRN T_ rfl rfl rfl (by assumption) rfl rfl ?_
    refine xo_alloc T_ rfl rfl rfl rfl (fun b13 => ?_)
    refine xo_store T_ rfl rfl rfl rfl (by repeat (first | exact List.Mem.head _ | apply List.Mem.tail | apply List.mem_append_right)) rfl rfl rfl rfl (by repeat (first | exact Upd.head | apply Upd.tail | apply Upd.app)) rfl ?_
    with_reducible refine xo_nil ?_
    with_reducible repeat (first | refine xq_then ?_ | refine xq_blockN ?_ | refine xq_scopeN ?_)
    with_reducible repeat refine xc_seq ?_
    with_reducible refine xc_region ?_
    refine xo_fa T_ rfl rfl rfl rfl rfl ?_
    refine xo_load0 T_ rfl rfl rfl (by repeat (first | exact List.Mem.head _ | apply List.Mem.tail | apply List.mem_append_right)) rfl rfl ?_
    refine xo_load0 T_ rfl rfl rfl (by repeat (first | exact List.Mem.head _ | exact List.mem_append_left _ (List.Mem.head _) | apply List.mem_append_right | apply List.Mem.tail)) rfl rfl ?_
    refine xo_eql rfl rfl rfl rfl ?_
    refine xo_asg rfl rfl rfl ?_
    with_reducible refine xo_nil ?_
    with_reducible repeat (first | refine xq_then ?_ | refine xq_blockN ?_ | refine xq_scopeN ?_)
    with_reducible repeat refine xc_seq ?_
    with_reducible refine xc_region ?_
    refine xo_fa T_ rfl rfl rfl rfl rfl ?_
    refine xo_load0 T_ rfl rfl rfl (by repeat (first | exact List.Mem.head _ | apply List.Mem.tail | apply List.mem_append_right)) rfl rfl ?_
    refine xo_len T_ rfl rfl rfl rfl ?_
    refine xo_mv rfl rfl rfl ?_
    with_reducible refine xo_nil ?_
    with_reducible repeat (first | refine xq_then ?_ | refine xq_blockN ?_ | refine xq_scopeN ?_)
    with_reducible repeat refine xc_seq ?_
    with_reducible refine xc_block ?_
    refine xc_loop (γ := Nat × Bool) (fun q => q.1 ≤ x.f2.length ∧ q.2 = (decide (x.f0 = id) || (x.f2.take q.1).any (wayP id come))) (fun q => [(0, .slice (some ad) r.length c), (5, .pointer (some ⟨b5, 0, none⟩)), (6, .pointer (some ⟨b6, 0, none⟩)), (8, .map (some M)), (10, .pointer (some ⟨b10, 0, none⟩)), (11, .pointer (some ⟨b11, 0, none⟩)), (40, .slice (some ad) r.length c), (41, .int .i64 (r.length : Int)), (42, .int .i64 (k : Int)), (13, .pointer (some ⟨b13, 0, none⟩)), (14, .bool q.2), (51, .slice A2 x.f2.length c2), (52, .int .i64 (x.f2.length : Int)), (53, .int .i64 (q.1 : Int))])
      (fun _ => (b13, true, cel (recV x A2 c2) 50) :: (b11, true, cel (stV sum) 27) :: (b10, true, cel [.map (some b39)] 62) :: (b39, true, hmap (setV come)) :: (M, true, hmap (stM L)) :: (stH (storeF m) L ++ [(b6, true, cel (stV st0) 27), (b5, true, cel [.int .i64 id] 3)])) (fun q => x.f2.length - q.1) (0, decide (x.f0 = id)) ⟨Nat.zero_le _, by simp⟩ ⟨rfl, rfl, rfl, rfl, rfl, rfl, rfl, rfl, rfl, rfl, rfl, rfl, rfl, rfl, trivial⟩ (List.Sublist.refl _) ?_
    rintro ⟨j, from_⟩ ⟨hj1, hfr⟩
    simp only at hj1 hfr ⊢
    with_reducible repeat refine xc_seq ?_
    with_reducible refine xc_region ?_
    refine xo_lss rfl rfl rfl rfl ?_
    with_reducible refine xo_nil ?_
    with_reducible repeat (first | refine xq_then ?_ | refine xq_blockN ?_ | refine xq_scopeN ?_)
    with_reducible repeat refine xc_seq ?_
    refine xc_cond rfl (fun h => ?_) (fun h => ?_)
    · have hjl : j < x.f2.length := by have := of_decide_eq_true h; omega
      obtain ⟨ad3, A3, c3, rfl, r3, hc3, hw3⟩ := way_at hw2 j hjl
      have hta := take_any (wayP id come) x.f2 [] j hjl
      generalize x.f2.getD j [] = way at *
      with_reducible refine xc_skip ?_
      with_reducible repeat (first | refine xq_then ?_ | refine xq_blockN ?_ | refine xq_scopeN ?_)
      with_reducible repeat refine xc_seq ?_
      with_reducible refine xc_block ?_
      with_reducible repeat refine xc_seq ?_
      with_reducible refine xc_region ?_
      refine xo_ia T_ rfl rfl rfl rfl rfl ⟨by omega, by omega⟩ rfl ?_
      refine xo_loadR0 T_ rfl rfl rfl (by first | assumption | exact RO.fld (by assumption) rfl) rfl ?_
      refine xo_asg rfl rfl rfl ?_
      with_reducible refine xo_nil ?_
      with_reducible repeat (first | refine xq_then ?_ | refine xq_blockN ?_ | refine xq_scopeN ?_)
      cases from_
      all_goals
        with_reducible repeat refine xc_seq ?_
        with_reducible refine xc_region ?_
        refine xo_mv rfl rfl rfl ?_
        refine xo_mv rfl rfl rfl ?_
        first
          | refine xo_not rfl rfl ?_
          | (refine xo_mv rfl rfl rfl ?_)
        first
          | refine xo_not rfl rfl ?_
          | (refine xo_mkf rfl rfl rfl rfl ?_)
        first
          | refine xo_not rfl rfl ?_
          | (refine xo_callB (fs := []) (cs := []) rfl rfl rfl containsFn_enters rfl (fun w1 hw1 => containsFunc_calls (fun n => decide (n = id) || decide (n ∈ come)) 45 [.pointer (some ⟨b5, 0, none⟩), .pointer (some ⟨b10, 0, none⟩)] pieces1_enters A3 c3 way w1 (Kd.C_below hw3 hw1.kx.below) (fun y W hW => pieces1_calls y id come b5 b10 b39 W ((hw1.below hW).cell (by repeat (first | exact List.Mem.head _ | exact List.mem_append_left _ (List.Mem.head _) | apply List.mem_append_right | apply List.Mem.tail)) 0 rfl) ((hw1.below hW).cell (by repeat (first | exact List.Mem.head _ | apply List.Mem.tail | apply List.mem_append_right)) 0 rfl) ((hw1.below hW).imap (wr := true) (by repeat (first | exact List.Mem.head _ | apply List.Mem.tail | apply List.mem_append_right))))) ?_)
        first | refine xo_pickT rfl rfl rfl rfl ?_ | refine xo_pickF rfl rfl rfl rfl ?_
        refine xo_asg rfl rfl rfl ?_
        with_reducible refine xo_nil ?_
        with_reducible repeat (first | refine xq_then ?_ | refine xq_blockN ?_ | refine xq_scopeN ?_)
        with_reducible repeat refine xc_seq ?_
        with_reducible refine xc_region ?_
        refine xo_add rfl rfl rfl (by omega) rfl ?_
        refine xo_mv rfl rfl rfl ?_
        with_reducible refine xo_nil ?_
        with_reducible repeat (first | refine xq_then ?_ | refine xq_blockN ?_ | refine xq_scopeN ?_)
      · exact xq_again _ _ _ _ _ (j + 1, wayP id come way) ⟨by omega, by simp only; rw [hta, ← Bool.or_assoc, ← hfr]; rfl⟩ (by first | omega | (simp only; omega)) ⟨rfl, rfl, rfl, rfl, rfl, rfl, rfl, rfl, rfl, rfl, rfl, rfl, rfl, rfl, trivial⟩ (List.Sublist.refl _)
      · exact xq_again _ _ _ _ _ (j + 1, true) ⟨by omega, by simp only; rw [hta, ← Bool.or_assoc, ← hfr]; rfl⟩ (by first | omega | (simp only; omega)) ⟨rfl, rfl, rfl, rfl, rfl, rfl, rfl, rfl, rfl, rfl, rfl, rfl, rfl, rfl, trivial⟩ (List.Sublist.refl _)
    have hgej : ¬ j < x.f2.length := by have := of_decide_eq_false h; omega
    rw [List.take_of_length_le (by omega)] at hfr
    have hfr : from_ = fromF id come x := hfr
    rw [← hfr, ← hbm, ← hL] at hpl
    with_reducible refine xc_exit ?_
    with_reducible repeat (first | refine xq_blockX ?_ | refine xq_thenE ?_ | refine xq_blockE rfl ?_ | refine xq_scopeE ?_)
    with_reducible repeat (first | refine xq_then ?_ | refine xq_blockN ?_ | refine xq_scopeN ?_)
    rcases imGet_stM (L := L) (id := x.f0) with ⟨b, hb1, hb2⟩ | ⟨hb1, hb2⟩
    rotate_left
    · with_reducible repeat refine xc_seq ?_
      with_reducible refine xc_region ?_
      refine xo_mv rfl rfl rfl ?_
      refine xo_fa T_ rfl rfl rfl rfl rfl ?_
      refine xo_load0 T_ rfl rfl rfl (by repeat (first | exact List.Mem.head _ | apply List.Mem.tail | apply List.mem_append_right)) rfl rfl ?_
      refine xo_look2 T_ rfl rfl rfl rfl rfl rfl (by repeat (first | exact List.Mem.head _ | apply List.Mem.tail | apply List.mem_append_right)) (by rw [hb2]) (by rw [hb2]) rfl ?_
      refine xo_mv rfl rfl rfl ?_
      refine xo_ext rfl rfl rfl rfl ?_
      refine xo_ext rfl rfl rfl rfl ?_
      refine xo_asg rfl rfl rfl ?_
      refine xo_asg rfl rfl rfl ?_
      with_reducible refine xo_nil ?_
      with_reducible repeat (first | refine xq_then ?_ | refine xq_blockN ?_ | refine xq_scopeN ?_)
      rw [decide_eq_false hb1, Bool.and_false, if_neg (by simp)] at hpl
      cases from_
      all_goals
        with_reducible repeat refine xc_seq ?_
        with_reducible refine xc_region ?_
        refine xo_mv rfl rfl rfl ?_
        refine xo_notOp rfl rfl rfl ?_
        refine xo_mv rfl rfl rfl ?_
        first
          | refine xo_not rfl rfl ?_
          | (refine xo_mv rfl rfl rfl ?_)
        first
          | refine xo_not rfl rfl ?_
          | (refine xo_notOp rfl rfl rfl ?_)
        first | refine xo_pickT rfl rfl rfl rfl ?_ | refine xo_pickF rfl rfl rfl rfl ?_
        with_reducible refine xo_nil ?_
        with_reducible repeat (first | refine xq_then ?_ | refine xq_blockN ?_ | refine xq_scopeN ?_)
        with_reducible repeat refine xc_seq ?_
        refine xc_condT rfl ?_
        with_reducible refine xc_exit ?_
        with_reducible repeat (first | refine xq_blockX ?_ | refine xq_thenE ?_ | refine xq_blockE rfl ?_ | refine xq_scopeE ?_)
        with_reducible repeat (first | refine xq_then ?_ | refine xq_blockN ?_ | refine xq_scopeN ?_)
        with_reducible repeat refine xc_seq ?_
        with_reducible refine xc_region ?_
        refine xo_add rfl rfl rfl (by omega) rfl ?_
        refine xo_mv rfl rfl rfl ?_
        with_reducible refine xo_nil ?_
        with_reducible repeat (first | refine xq_then ?_ | refine xq_blockN ?_ | refine xq_scopeN ?_)
        exact xq_again _ _ _ _ _ (k + 1, come, sum) ⟨hlt, hsB.mono (by simp only; omega), hpl⟩ (by first | omega | (simp only; omega)) ⟨rfl, rfl, rfl, rfl, rfl, rfl, rfl, rfl, rfl, trivial⟩ (by repeat (first | exact List.Sublist.refl _ | apply List.Sublist.cons_cons | apply List.Sublist.cons | exact List.nil_sublist _))
    · with_reducible repeat refine xc_seq ?_
      with_reducible refine xc_region ?_
      refine xo_mv rfl rfl rfl ?_
      refine xo_fa T_ rfl rfl rfl rfl rfl ?_
      refine xo_load0 T_ rfl rfl rfl (by repeat (first | exact List.Mem.head _ | apply List.Mem.tail | apply List.mem_append_right)) rfl rfl ?_
      refine xo_look2 T_ rfl rfl rfl rfl rfl rfl (by repeat (first | exact List.Mem.head _ | apply List.Mem.tail | apply List.mem_append_right)) (by rw [hb2]) (by rw [hb2]) rfl ?_
      refine xo_mv rfl rfl rfl ?_
      refine xo_ext rfl rfl rfl rfl ?_
      refine xo_ext rfl rfl rfl rfl ?_
      refine xo_asg rfl rfl rfl ?_
      refine xo_asg rfl rfl rfl ?_
      with_reducible refine xo_nil ?_
      with_reducible repeat (first | refine xq_then ?_ | refine xq_blockN ?_ | refine xq_scopeN ?_)
      rw [decide_eq_true (List.mem_map.2 ⟨_, hb1, rfl⟩), Bool.and_true] at hpl
      cases from_
      · rw [if_neg (by simp)] at hpl
        with_reducible repeat refine xc_seq ?_
        with_reducible refine xc_region ?_
        refine xo_mv rfl rfl rfl ?_
        refine xo_notOp rfl rfl rfl ?_
        refine xo_mv rfl rfl rfl ?_
        first
          | refine xo_not rfl rfl ?_
          | (refine xo_mv rfl rfl rfl ?_)
        first
          | refine xo_not rfl rfl ?_
          | (refine xo_notOp rfl rfl rfl ?_)
        first | refine xo_pickT rfl rfl rfl rfl ?_ | refine xo_pickF rfl rfl rfl rfl ?_
        with_reducible refine xo_nil ?_
        with_reducible repeat (first | refine xq_then ?_ | refine xq_blockN ?_ | refine xq_scopeN ?_)
        with_reducible repeat refine xc_seq ?_
        refine xc_condT rfl ?_
        with_reducible refine xc_exit ?_
        with_reducible repeat (first | refine xq_blockX ?_ | refine xq_thenE ?_ | refine xq_blockE rfl ?_ | refine xq_scopeE ?_)
        with_reducible repeat (first | refine xq_then ?_ | refine xq_blockN ?_ | refine xq_scopeN ?_)
        with_reducible repeat refine xc_seq ?_
        with_reducible refine xc_region ?_
        refine xo_add rfl rfl rfl (by omega) rfl ?_
        refine xo_mv rfl rfl rfl ?_
        with_reducible refine xo_nil ?_
        with_reducible repeat (first | refine xq_then ?_ | refine xq_blockN ?_ | refine xq_scopeN ?_)
        exact xq_again _ _ _ _ _ (k + 1, come, sum) ⟨hlt, hsB.mono (by simp only; omega), hpl⟩ (by first | omega | (simp only; omega)) ⟨rfl, rfl, rfl, rfl, rfl, rfl, rfl, rfl, rfl, trivial⟩ (by repeat (first | exact List.Sublist.refl _ | apply List.Sublist.cons_cons | apply List.Sublist.cons | exact List.nil_sublist _))
      rw [if_pos rfl] at hpl
      have hB2 := count_B hcf x.f0
      have hsB' := (hsB.add hB2).mono (show 4000000 * (k : Int) + 4000000 ≤ 4000000 * ((k + 1 : Nat) : Int) by omega)
      with_reducible repeat refine xc_seq ?_
      with_reducible refine xc_region ?_
      refine xo_mv rfl rfl rfl ?_
      refine xo_notOp rfl rfl rfl ?_
      refine xo_mv rfl rfl rfl ?_
      first
        | refine xo_not rfl rfl ?_
        | (refine xo_mv rfl rfl rfl ?_)
      first
        | refine xo_not rfl rfl ?_
        | (refine xo_notOp rfl rfl rfl ?_)
      first | refine xo_pickT rfl rfl rfl rfl ?_ | refine xo_pickF rfl rfl rfl rfl ?_
      with_reducible refine xo_nil ?_
      with_reducible repeat (first | refine xq_then ?_ | refine xq_blockN ?_ | refine xq_scopeN ?_)
      with_reducible repeat refine xc_seq ?_
      refine xc_condF rfl ?_
      with_reducible refine xc_skip ?_
      with_reducible repeat (first | refine xq_then ?_ | refine xq_blockN ?_ | refine xq_scopeN ?_)
      with_reducible repeat refine xc_seq ?_
      with_reducible refine xc_region ?_
      refine xo_load0 T_ rfl rfl rfl (by repeat (first | exact List.Mem.head _ | apply List.Mem.tail | apply List.mem_append_right)) rfl rfl ?_
      refine xo_fa T_ rfl rfl rfl rfl rfl ?_
      refine xo_load0 T_ rfl rfl rfl (by repeat (first | exact List.Mem.head _ | apply List.Mem.tail | apply List.mem_append_right)) rfl rfl ?_
      refine xo_sins T_ rfl rfl rfl rfl rfl rfl (by repeat (first | exact List.Mem.head _ | apply List.Mem.tail | apply List.mem_append_right)) (by repeat (first | exact Upd.head | apply Upd.tail | apply Upd.app)) rfl ?_
      with_reducible refine xo_nil ?_
      with_reducible repeat (first | refine xq_then ?_ | refine xq_blockN ?_ | refine xq_scopeN ?_)
      with_reducible repeat refine xc_seq ?_
      with_reducible refine xc_region ?_
      refine xo_mv rfl rfl rfl ?_
      refine xo_nilck rfl rfl rfl ?_
      refine xo_loadN T_ rfl rfl rfl (List.Mem.tail _ (List.Mem.tail _ (List.Mem.tail _ (List.Mem.tail _ (List.Mem.tail _ (List.mem_append_left _ (stH_mem hb1))))))) rfl rfl ?_
      refine xo_build TB_ rfl rfl rfl rfl rfl ?_
      refine xo_neqSt (a := storeF m x.f0) (b := st0) rfl rfl rfl rfl ?_
      with_reducible refine xo_nil ?_
      with_reducible repeat (first | refine xq_then ?_ | refine xq_blockN ?_ | refine xq_scopeN ?_)
      with_reducible repeat refine xc_seq ?_
      refine xc_cond rfl (fun hz => ?_) (fun hz => ?_)
      · unfold StB at hsB hB2
        with_reducible repeat refine xc_seq ?_
        apply xc_drawE (fun g => []) (fun (η0 : Hp) g => match g with | [] => (η0) | a0 :: _ => ((b13, true, cel (recV x A2 c2) 50) :: (b11, true, cel (stV (addS sum (storeF m x.f0))) 27) :: (b10, true, cel [.map (some b39)] 62) :: (b39, true, hmap (setV (insN x.f0 come))) :: (M, true, hmap (stM L)) :: (stH (storeF m) L ++ [(b6, true, cel (stV st0) 27), (b5, true, cel [.int .i64 id] 3)]))) (fun _ => True) [0, 0, 0, 0, 0, 0, 0, 0, 0, 0, 0, 0, 0, 0, 0, 0, 0, 0, 0, 0, 0, 0, 0, 0, 0, 0, 0, 0, 0, 0, 0, 0, 0, 0, 0, 0, 0, 0, 0, 0, 0, 0, 0, 1] [43] [[42, 0, 1, 2, 3, 4, 5, 6, 7, 8, 9, 10, 11, 12, 13, 14, 15, 16, 17, 18, 19, 20, 21, 22, 23, 24, 25, 26, 27, 28, 29, 30, 31, 32, 33, 34, 35, 36, 37, 38, 39, 40, 41, 42]] (by trivial)
        apply SameLen.cons
        apply SameLen.cons
        apply SameLen.cons
        apply SameLen.cons
        apply SameLen.cons
        apply SameLen.cons
        apply SameLen.cons
        apply SameLen.cons
        apply SameLen.cons
        apply SameLen.cons
        apply SameLen.cons
        apply SameLen.cons
        apply SameLen.cons
        apply SameLen.cons
        apply SameLen.cons
        apply SameLen.cons
        apply SameLen.cons
        apply SameLen.cons
        apply SameLen.cons
        apply SameLen.cons
        apply SameLen.cons
        apply SameLen.cons
        apply SameLen.cons
        apply SameLen.cons
        apply SameLen.cons
        apply SameLen.cons
        apply SameLen.cons
        apply SameLen.cons
        apply SameLen.cons
        apply SameLen.cons
        apply SameLen.cons
        apply SameLen.cons
        apply SameLen.cons
        apply SameLen.cons
        apply SameLen.cons
        apply SameLen.cons
        apply SameLen.cons
        apply SameLen.cons
        apply SameLen.cons
        apply SameLen.cons
        apply SameLen.cons
        apply SameLen.cons
        apply SameLen.cons
        apply SameLen.cons
        exact SameLen.nil
        rotate_left 44
        case hH0 => rfl
        case hmix => exact T_.mixed
        case hbind => rfl
        case hdeps => rfl
        case hdist => rfl
        case hfresh => rfl
        case hE => rfl
        case hEn => decide
        · refine DrawE.pure 0 0 rfl (.inr (by decide)) (fun L g hg hd => Nat.zero_le _) (fun g hlo hhi hF τ => ?_) ?_
          · rcases g with _ | ⟨a0, _ | ⟨a1, g⟩⟩
            all_goals first
              | (exfalso; simp only [List.length_cons, List.length_nil] at hlo hhi; omega)
              | (refine ⟨_, rfl, ?_⟩
                 refine xo_fa T_ rfl rfl rfl rfl rfl ?_
                 exact xo_fin rfl)
          refine DrawE.pure 0 0 rfl (.inr (by decide)) (fun L g hg hd => Nat.zero_le _) (fun g hlo hhi hF τ => ?_) ?_
          · rcases g with _ | ⟨a0, _ | ⟨a1, g⟩⟩
            all_goals first
              | (exfalso; simp only [List.length_cons, List.length_nil] at hlo hhi; omega)
              | (refine ⟨_, rfl, ?_⟩
                 refine xo_load0 T_ rfl rfl rfl (by repeat (first | exact List.Mem.head _ | apply List.Mem.tail | apply List.mem_append_right)) rfl rfl ?_
                 exact xo_fin rfl)
          refine DrawE.pure 0 0 rfl (.inr (by decide)) (fun L g hg hd => Nat.zero_le _) (fun g hlo hhi hF τ => ?_) ?_
          · rcases g with _ | ⟨a0, _ | ⟨a1, g⟩⟩
            all_goals first
              | (exfalso; simp only [List.length_cons, List.length_nil] at hlo hhi; omega)
              | (refine ⟨_, rfl, ?_⟩
                 refine xo_mv rfl rfl rfl ?_
                 exact xo_fin rfl)
          refine DrawE.pure 0 0 rfl (.inr (by decide)) (fun L g hg hd => Nat.zero_le _) (fun g hlo hhi hF τ => ?_) ?_
          · rcases g with _ | ⟨a0, _ | ⟨a1, g⟩⟩
            all_goals first
              | (exfalso; simp only [List.length_cons, List.length_nil] at hlo hhi; omega)
              | (refine ⟨_, rfl, ?_⟩
                 refine xo_nilck rfl rfl rfl ?_
                 exact xo_fin rfl)
          refine DrawE.pure 0 0 rfl (.inr (by decide)) (fun L g hg hd => Nat.zero_le _) (fun g hlo hhi hF τ => ?_) ?_
          · rcases g with _ | ⟨a0, _ | ⟨a1, g⟩⟩
            all_goals first
              | (exfalso; simp only [List.length_cons, List.length_nil] at hlo hhi; omega)
              | (refine ⟨_, rfl, ?_⟩
                 refine xo_fa T_ rfl rfl rfl rfl rfl ?_
                 exact xo_fin rfl)
          refine DrawE.pure 0 0 rfl (.inr (by decide)) (fun L g hg hd => Nat.zero_le _) (fun g hlo hhi hF τ => ?_) ?_
          · rcases g with _ | ⟨a0, _ | ⟨a1, g⟩⟩
            all_goals first
              | (exfalso; simp only [List.length_cons, List.length_nil] at hlo hhi; omega)
              | (refine ⟨_, rfl, ?_⟩
                 refine xo_load0 T_ rfl rfl rfl (List.Mem.tail _ (List.Mem.tail _ (List.Mem.tail _ (List.Mem.tail _ (List.Mem.tail _ (List.mem_append_left _ (stH_mem hb1))))))) rfl rfl ?_
                 exact xo_fin rfl)
          refine DrawE.pure 0 0 rfl (.inr (by decide)) (fun L g hg hd => Nat.zero_le _) (fun g hlo hhi hF τ => ?_) ?_
          · rcases g with _ | ⟨a0, _ | ⟨a1, g⟩⟩
            all_goals first
              | (exfalso; simp only [List.length_cons, List.length_nil] at hlo hhi; omega)
              | (refine ⟨_, rfl, ?_⟩
                 refine xo_add rfl rfl rfl (by omega) rfl ?_
                 exact xo_fin rfl)
          refine DrawE.pure 0 0 rfl (.inr (by decide)) (fun L g hg hd => Nat.zero_le _) (fun g hlo hhi hF τ => ?_) ?_
          · rcases g with _ | ⟨a0, _ | ⟨a1, g⟩⟩
            all_goals first
              | (exfalso; simp only [List.length_cons, List.length_nil] at hlo hhi; omega)
              | (refine ⟨_, rfl, ?_⟩
                 refine xo_fa T_ rfl rfl rfl rfl rfl ?_
                 exact xo_fin rfl)
          refine DrawE.pure 0 0 rfl (.inr (by decide)) (fun L g hg hd => Nat.zero_le _) (fun g hlo hhi hF τ => ?_) ?_
          · rcases g with _ | ⟨a0, _ | ⟨a1, g⟩⟩
            all_goals first
              | (exfalso; simp only [List.length_cons, List.length_nil] at hlo hhi; omega)
              | (refine ⟨_, rfl, ?_⟩
                 refine xo_load0 T_ rfl rfl rfl (by repeat (first | exact List.Mem.head _ | apply List.Mem.tail | apply List.mem_append_right)) rfl rfl ?_
                 exact xo_fin rfl)
          refine DrawE.pure 0 0 rfl (.inr (by decide)) (fun L g hg hd => Nat.zero_le _) (fun g hlo hhi hF τ => ?_) ?_
          · rcases g with _ | ⟨a0, _ | ⟨a1, g⟩⟩
            all_goals first
              | (exfalso; simp only [List.length_cons, List.length_nil] at hlo hhi; omega)
              | (refine ⟨_, rfl, ?_⟩
                 refine xo_mv rfl rfl rfl ?_
                 exact xo_fin rfl)
          refine DrawE.pure 0 0 rfl (.inr (by decide)) (fun L g hg hd => Nat.zero_le _) (fun g hlo hhi hF τ => ?_) ?_
          · rcases g with _ | ⟨a0, _ | ⟨a1, g⟩⟩
            all_goals first
              | (exfalso; simp only [List.length_cons, List.length_nil] at hlo hhi; omega)
              | (refine ⟨_, rfl, ?_⟩
                 refine xo_nilck rfl rfl rfl ?_
                 exact xo_fin rfl)
          refine DrawE.pure 0 0 rfl (.inr (by decide)) (fun L g hg hd => Nat.zero_le _) (fun g hlo hhi hF τ => ?_) ?_
          · rcases g with _ | ⟨a0, _ | ⟨a1, g⟩⟩
            all_goals first
              | (exfalso; simp only [List.length_cons, List.length_nil] at hlo hhi; omega)
              | (refine ⟨_, rfl, ?_⟩
                 refine xo_fa T_ rfl rfl rfl rfl rfl ?_
                 exact xo_fin rfl)
          refine DrawE.pure 0 0 rfl (.inr (by decide)) (fun L g hg hd => Nat.zero_le _) (fun g hlo hhi hF τ => ?_) ?_
          · rcases g with _ | ⟨a0, _ | ⟨a1, g⟩⟩
            all_goals first
              | (exfalso; simp only [List.length_cons, List.length_nil] at hlo hhi; omega)
              | (refine ⟨_, rfl, ?_⟩
                 refine xo_load0 T_ rfl rfl rfl (List.Mem.tail _ (List.Mem.tail _ (List.Mem.tail _ (List.Mem.tail _ (List.Mem.tail _ (List.mem_append_left _ (stH_mem hb1))))))) rfl rfl ?_
                 exact xo_fin rfl)
          refine DrawE.pure 0 0 rfl (.inr (by decide)) (fun L g hg hd => Nat.zero_le _) (fun g hlo hhi hF τ => ?_) ?_
          · rcases g with _ | ⟨a0, _ | ⟨a1, g⟩⟩
            all_goals first
              | (exfalso; simp only [List.length_cons, List.length_nil] at hlo hhi; omega)
              | (refine ⟨_, rfl, ?_⟩
                 refine xo_add rfl rfl rfl (by omega) rfl ?_
                 exact xo_fin rfl)
          refine DrawE.pure 0 0 rfl (.inr (by decide)) (fun L g hg hd => Nat.zero_le _) (fun g hlo hhi hF τ => ?_) ?_
          · rcases g with _ | ⟨a0, _ | ⟨a1, g⟩⟩
            all_goals first
              | (exfalso; simp only [List.length_cons, List.length_nil] at hlo hhi; omega)
              | (refine ⟨_, rfl, ?_⟩
                 refine xo_fa T_ rfl rfl rfl rfl rfl ?_
                 exact xo_fin rfl)
          refine DrawE.pure 0 0 rfl (.inr (by decide)) (fun L g hg hd => Nat.zero_le _) (fun g hlo hhi hF τ => ?_) ?_
          · rcases g with _ | ⟨a0, _ | ⟨a1, g⟩⟩
            all_goals first
              | (exfalso; simp only [List.length_cons, List.length_nil] at hlo hhi; omega)
              | (refine ⟨_, rfl, ?_⟩
                 refine xo_load0 T_ rfl rfl rfl (by repeat (first | exact List.Mem.head _ | apply List.Mem.tail | apply List.mem_append_right)) rfl rfl ?_
                 exact xo_fin rfl)
          refine DrawE.pure 0 0 rfl (.inr (by decide)) (fun L g hg hd => Nat.zero_le _) (fun g hlo hhi hF τ => ?_) ?_
          · rcases g with _ | ⟨a0, _ | ⟨a1, g⟩⟩
            all_goals first
              | (exfalso; simp only [List.length_cons, List.length_nil] at hlo hhi; omega)
              | (refine ⟨_, rfl, ?_⟩
                 refine xo_mv rfl rfl rfl ?_
                 exact xo_fin rfl)
          refine DrawE.pure 0 0 rfl (.inr (by decide)) (fun L g hg hd => Nat.zero_le _) (fun g hlo hhi hF τ => ?_) ?_
          · rcases g with _ | ⟨a0, _ | ⟨a1, g⟩⟩
            all_goals first
              | (exfalso; simp only [List.length_cons, List.length_nil] at hlo hhi; omega)
              | (refine ⟨_, rfl, ?_⟩
                 refine xo_nilck rfl rfl rfl ?_
                 exact xo_fin rfl)
          refine DrawE.pure 0 0 rfl (.inr (by decide)) (fun L g hg hd => Nat.zero_le _) (fun g hlo hhi hF τ => ?_) ?_
          · rcases g with _ | ⟨a0, _ | ⟨a1, g⟩⟩
            all_goals first
              | (exfalso; simp only [List.length_cons, List.length_nil] at hlo hhi; omega)
              | (refine ⟨_, rfl, ?_⟩
                 refine xo_fa T_ rfl rfl rfl rfl rfl ?_
                 exact xo_fin rfl)
          refine DrawE.pure 0 0 rfl (.inr (by decide)) (fun L g hg hd => Nat.zero_le _) (fun g hlo hhi hF τ => ?_) ?_
          · rcases g with _ | ⟨a0, _ | ⟨a1, g⟩⟩
            all_goals first
              | (exfalso; simp only [List.length_cons, List.length_nil] at hlo hhi; omega)
              | (refine ⟨_, rfl, ?_⟩
                 refine xo_load0 T_ rfl rfl rfl (List.Mem.tail _ (List.Mem.tail _ (List.Mem.tail _ (List.Mem.tail _ (List.Mem.tail _ (List.mem_append_left _ (stH_mem hb1))))))) rfl rfl ?_
                 exact xo_fin rfl)
          refine DrawE.pure 0 0 rfl (.inr (by decide)) (fun L g hg hd => Nat.zero_le _) (fun g hlo hhi hF τ => ?_) ?_
          · rcases g with _ | ⟨a0, _ | ⟨a1, g⟩⟩
            all_goals first
              | (exfalso; simp only [List.length_cons, List.length_nil] at hlo hhi; omega)
              | (refine ⟨_, rfl, ?_⟩
                 refine xo_add rfl rfl rfl (by omega) rfl ?_
                 exact xo_fin rfl)
          refine DrawE.pure 0 0 rfl (.inr (by decide)) (fun L g hg hd => Nat.zero_le _) (fun g hlo hhi hF τ => ?_) ?_
          · rcases g with _ | ⟨a0, _ | ⟨a1, g⟩⟩
            all_goals first
              | (exfalso; simp only [List.length_cons, List.length_nil] at hlo hhi; omega)
              | (refine ⟨_, rfl, ?_⟩
                 refine xo_fa T_ rfl rfl rfl rfl rfl ?_
                 exact xo_fin rfl)
          refine DrawE.pure 0 0 rfl (.inr (by decide)) (fun L g hg hd => Nat.zero_le _) (fun g hlo hhi hF τ => ?_) ?_
          · rcases g with _ | ⟨a0, _ | ⟨a1, g⟩⟩
            all_goals first
              | (exfalso; simp only [List.length_cons, List.length_nil] at hlo hhi; omega)
              | (refine ⟨_, rfl, ?_⟩
                 refine xo_load0 T_ rfl rfl rfl (by repeat (first | exact List.Mem.head _ | apply List.Mem.tail | apply List.mem_append_right)) rfl rfl ?_
                 exact xo_fin rfl)
          refine DrawE.pure 0 0 rfl (.inr (by decide)) (fun L g hg hd => Nat.zero_le _) (fun g hlo hhi hF τ => ?_) ?_
          · rcases g with _ | ⟨a0, _ | ⟨a1, g⟩⟩
            all_goals first
              | (exfalso; simp only [List.length_cons, List.length_nil] at hlo hhi; omega)
              | (refine ⟨_, rfl, ?_⟩
                 refine xo_mv rfl rfl rfl ?_
                 exact xo_fin rfl)
          refine DrawE.pure 0 0 rfl (.inr (by decide)) (fun L g hg hd => Nat.zero_le _) (fun g hlo hhi hF τ => ?_) ?_
          · rcases g with _ | ⟨a0, _ | ⟨a1, g⟩⟩
            all_goals first
              | (exfalso; simp only [List.length_cons, List.length_nil] at hlo hhi; omega)
              | (refine ⟨_, rfl, ?_⟩
                 refine xo_nilck rfl rfl rfl ?_
                 exact xo_fin rfl)
          refine DrawE.pure 0 0 rfl (.inr (by decide)) (fun L g hg hd => Nat.zero_le _) (fun g hlo hhi hF τ => ?_) ?_
          · rcases g with _ | ⟨a0, _ | ⟨a1, g⟩⟩
            all_goals first
              | (exfalso; simp only [List.length_cons, List.length_nil] at hlo hhi; omega)
              | (refine ⟨_, rfl, ?_⟩
                 refine xo_fa T_ rfl rfl rfl rfl rfl ?_
                 exact xo_fin rfl)
          refine DrawE.pure 0 0 rfl (.inr (by decide)) (fun L g hg hd => Nat.zero_le _) (fun g hlo hhi hF τ => ?_) ?_
          · rcases g with _ | ⟨a0, _ | ⟨a1, g⟩⟩
            all_goals first
              | (exfalso; simp only [List.length_cons, List.length_nil] at hlo hhi; omega)
              | (refine ⟨_, rfl, ?_⟩
                 refine xo_load0 T_ rfl rfl rfl (List.Mem.tail _ (List.Mem.tail _ (List.Mem.tail _ (List.Mem.tail _ (List.Mem.tail _ (List.mem_append_left _ (stH_mem hb1))))))) rfl rfl ?_
                 exact xo_fin rfl)
          refine DrawE.pure 0 0 rfl (.inr (by decide)) (fun L g hg hd => Nat.zero_le _) (fun g hlo hhi hF τ => ?_) ?_
          · rcases g with _ | ⟨a0, _ | ⟨a1, g⟩⟩
            all_goals first
              | (exfalso; simp only [List.length_cons, List.length_nil] at hlo hhi; omega)
              | (refine ⟨_, rfl, ?_⟩
                 refine xo_add rfl rfl rfl (by omega) rfl ?_
                 exact xo_fin rfl)
          refine DrawE.pure 0 0 rfl (.inr (by decide)) (fun L g hg hd => Nat.zero_le _) (fun g hlo hhi hF τ => ?_) ?_
          · rcases g with _ | ⟨a0, _ | ⟨a1, g⟩⟩
            all_goals first
              | (exfalso; simp only [List.length_cons, List.length_nil] at hlo hhi; omega)
              | (refine ⟨_, rfl, ?_⟩
                 refine xo_fa T_ rfl rfl rfl rfl rfl ?_
                 exact xo_fin rfl)
          refine DrawE.pure 0 0 rfl (.inr (by decide)) (fun L g hg hd => Nat.zero_le _) (fun g hlo hhi hF τ => ?_) ?_
          · rcases g with _ | ⟨a0, _ | ⟨a1, g⟩⟩
            all_goals first
              | (exfalso; simp only [List.length_cons, List.length_nil] at hlo hhi; omega)
              | (refine ⟨_, rfl, ?_⟩
                 refine xo_load0 T_ rfl rfl rfl (by repeat (first | exact List.Mem.head _ | apply List.Mem.tail | apply List.mem_append_right)) rfl rfl ?_
                 exact xo_fin rfl)
          refine DrawE.pure 0 0 rfl (.inr (by decide)) (fun L g hg hd => Nat.zero_le _) (fun g hlo hhi hF τ => ?_) ?_
          · rcases g with _ | ⟨a0, _ | ⟨a1, g⟩⟩
            all_goals first
              | (exfalso; simp only [List.length_cons, List.length_nil] at hlo hhi; omega)
              | (refine ⟨_, rfl, ?_⟩
                 refine xo_mv rfl rfl rfl ?_
                 exact xo_fin rfl)
          refine DrawE.pure 0 0 rfl (.inr (by decide)) (fun L g hg hd => Nat.zero_le _) (fun g hlo hhi hF τ => ?_) ?_
          · rcases g with _ | ⟨a0, _ | ⟨a1, g⟩⟩
            all_goals first
              | (exfalso; simp only [List.length_cons, List.length_nil] at hlo hhi; omega)
              | (refine ⟨_, rfl, ?_⟩
                 refine xo_nilck rfl rfl rfl ?_
                 exact xo_fin rfl)
          refine DrawE.pure 0 0 rfl (.inr (by decide)) (fun L g hg hd => Nat.zero_le _) (fun g hlo hhi hF τ => ?_) ?_
          · rcases g with _ | ⟨a0, _ | ⟨a1, g⟩⟩
            all_goals first
              | (exfalso; simp only [List.length_cons, List.length_nil] at hlo hhi; omega)
              | (refine ⟨_, rfl, ?_⟩
                 refine xo_fa T_ rfl rfl rfl rfl rfl ?_
                 exact xo_fin rfl)
          refine DrawE.pure 0 0 rfl (.inr (by decide)) (fun L g hg hd => Nat.zero_le _) (fun g hlo hhi hF τ => ?_) ?_
          · rcases g with _ | ⟨a0, _ | ⟨a1, g⟩⟩
            all_goals first
              | (exfalso; simp only [List.length_cons, List.length_nil] at hlo hhi; omega)
              | (refine ⟨_, rfl, ?_⟩
                 refine xo_load0 T_ rfl rfl rfl (List.Mem.tail _ (List.Mem.tail _ (List.Mem.tail _ (List.Mem.tail _ (List.Mem.tail _ (List.mem_append_left _ (stH_mem hb1))))))) rfl rfl ?_
                 exact xo_fin rfl)
          refine DrawE.pure 0 0 rfl (.inr (by decide)) (fun L g hg hd => Nat.zero_le _) (fun g hlo hhi hF τ => ?_) ?_
          · rcases g with _ | ⟨a0, _ | ⟨a1, g⟩⟩
            all_goals first
              | (exfalso; simp only [List.length_cons, List.length_nil] at hlo hhi; omega)
              | (refine ⟨_, rfl, ?_⟩
                 refine xo_add rfl rfl rfl (by omega) rfl ?_
                 exact xo_fin rfl)
          refine DrawE.pure 0 0 rfl (.inr (by decide)) (fun L g hg hd => Nat.zero_le _) (fun g hlo hhi hF τ => ?_) ?_
          · rcases g with _ | ⟨a0, _ | ⟨a1, g⟩⟩
            all_goals first
              | (exfalso; simp only [List.length_cons, List.length_nil] at hlo hhi; omega)
              | (refine ⟨_, rfl, ?_⟩
                 refine xo_fa T_ rfl rfl rfl rfl rfl ?_
                 exact xo_fin rfl)
          refine DrawE.pure 0 0 rfl (.inr (by decide)) (fun L g hg hd => Nat.zero_le _) (fun g hlo hhi hF τ => ?_) ?_
          · rcases g with _ | ⟨a0, _ | ⟨a1, g⟩⟩
            all_goals first
              | (exfalso; simp only [List.length_cons, List.length_nil] at hlo hhi; omega)
              | (refine ⟨_, rfl, ?_⟩
                 refine xo_load0 T_ rfl rfl rfl (by repeat (first | exact List.Mem.head _ | apply List.Mem.tail | apply List.mem_append_right)) rfl rfl ?_
                 exact xo_fin rfl)
          refine DrawE.pure 0 0 rfl (.inr (by decide)) (fun L g hg hd => Nat.zero_le _) (fun g hlo hhi hF τ => ?_) ?_
          · rcases g with _ | ⟨a0, _ | ⟨a1, g⟩⟩
            all_goals first
              | (exfalso; simp only [List.length_cons, List.length_nil] at hlo hhi; omega)
              | (refine ⟨_, rfl, ?_⟩
                 refine xo_mv rfl rfl rfl ?_
                 exact xo_fin rfl)
          refine DrawE.pure 0 0 rfl (.inr (by decide)) (fun L g hg hd => Nat.zero_le _) (fun g hlo hhi hF τ => ?_) ?_
          · rcases g with _ | ⟨a0, _ | ⟨a1, g⟩⟩
            all_goals first
              | (exfalso; simp only [List.length_cons, List.length_nil] at hlo hhi; omega)
              | (refine ⟨_, rfl, ?_⟩
                 refine xo_nilck rfl rfl rfl ?_
                 exact xo_fin rfl)
          refine DrawE.pure 0 0 rfl (.inr (by decide)) (fun L g hg hd => Nat.zero_le _) (fun g hlo hhi hF τ => ?_) ?_
          · rcases g with _ | ⟨a0, _ | ⟨a1, g⟩⟩
            all_goals first
              | (exfalso; simp only [List.length_cons, List.length_nil] at hlo hhi; omega)
              | (refine ⟨_, rfl, ?_⟩
                 refine xo_fa T_ rfl rfl rfl rfl rfl ?_
                 exact xo_fin rfl)
          refine DrawE.pure 0 0 rfl (.inr (by decide)) (fun L g hg hd => Nat.zero_le _) (fun g hlo hhi hF τ => ?_) ?_
          · rcases g with _ | ⟨a0, _ | ⟨a1, g⟩⟩
            all_goals first
              | (exfalso; simp only [List.length_cons, List.length_nil] at hlo hhi; omega)
              | (refine ⟨_, rfl, ?_⟩
                 refine xo_load0 T_ rfl rfl rfl (List.Mem.tail _ (List.Mem.tail _ (List.Mem.tail _ (List.Mem.tail _ (List.Mem.tail _ (List.mem_append_left _ (stH_mem hb1))))))) rfl rfl ?_
                 exact xo_fin rfl)
          refine DrawE.pure 0 0 rfl (.inr (by decide)) (fun L g hg hd => Nat.zero_le _) (fun g hlo hhi hF τ => ?_) ?_
          · rcases g with _ | ⟨a0, _ | ⟨a1, g⟩⟩
            all_goals first
              | (exfalso; simp only [List.length_cons, List.length_nil] at hlo hhi; omega)
              | (refine ⟨_, rfl, ?_⟩
                 refine xo_add rfl rfl rfl (by omega) rfl ?_
                 exact xo_fin rfl)
          refine DrawE.pure 0 0 rfl (.inr (by decide)) (fun L g hg hd => Nat.zero_le _) (fun g hlo hhi hF τ => ?_) ?_
          · rcases g with _ | ⟨a0, _ | ⟨a1, g⟩⟩
            all_goals first
              | (exfalso; simp only [List.length_cons, List.length_nil] at hlo hhi; omega)
              | (refine ⟨_, rfl, ?_⟩
                 refine xo_build TB_ rfl rfl rfl rfl rfl ?_
                 exact xo_fin rfl)
          refine DrawE.eff 0 rfl (by decide) rfl (fun j hj => hj) (fun j g a hj => ?_) (fun L g hg hd => Nat.zero_le _) (fun g hgl hF τ => ?_) ?_
          · rcases j with _ | _ | _ | _ | _ | _ | _ | _ | _ | _ | _ | _ | _ | _ | _ | _ | _ | _ | _ | _ | _ | _ | _ | _ | _ | _ | _ | _ | _ | _ | _ | _ | _ | _ | _ | _ | _ | _ | _ | _ | _ | _ | _ | _ | j
            all_goals first | rfl | (rcases g with _ | ⟨a0, _ | ⟨a1, g⟩⟩ <;> first | rfl | exact absurd hj (by decide) | exact absurd hj (by simp [List.getD]))
          · obtain rfl : g = [] := by
              rcases g with _ | ⟨a0, g⟩ <;> first | rfl | (exfalso; simp only [List.length_cons, List.length_nil] at hgl; omega)
            refine xo_store T_ rfl rfl rfl rfl (by repeat (first | exact List.Mem.head _ | apply List.Mem.tail | apply List.mem_append_right)) rfl rfl rfl rfl (by repeat (first | exact Upd.head | apply Upd.tail | apply Upd.app)) rfl ?_
            exact xo_finE gv0 rfl trivial
          exact DrawE.nil
        intro g hgl hF
        obtain ⟨a0, rfl⟩ : ∃ a0, g = [a0] := by
          rcases g with _ | ⟨a0, _ | ⟨a1, g⟩⟩ <;> first | exact ⟨_, rfl⟩ | (exfalso; simp only [List.length_cons, List.length_nil] at hgl; omega)
        with_reducible repeat (first | refine xq_then ?_ | refine xq_blockN ?_ | refine xq_scopeN ?_)
        with_reducible repeat refine xc_seq ?_
        with_reducible refine xc_region ?_
        refine xo_add rfl rfl rfl (by omega) rfl ?_
        refine xo_mv rfl rfl rfl ?_
        with_reducible refine xo_nil ?_
        with_reducible repeat (first | refine xq_then ?_ | refine xq_blockN ?_ | refine xq_scopeN ?_)
        exact xq_again _ _ _ _ _ (k + 1, insN x.f0 come, addS sum (storeF m x.f0)) ⟨hlt, hsB', hpl⟩ (by first | omega | (simp only; omega)) ⟨rfl, rfl, rfl, rfl, rfl, rfl, rfl, rfl, rfl, trivial⟩ (List.sublist_cons_self _ _)
      · simp only [Bool.not_eq_false'] at hz
        rw [stEq_iff.1 hz, addS_zero] at hpl
        with_reducible refine xc_skip ?_
        with_reducible repeat (first | refine xq_then ?_ | refine xq_blockN ?_ | refine xq_scopeN ?_)
        with_reducible repeat refine xc_seq ?_
        with_reducible refine xc_region ?_
        refine xo_add rfl rfl rfl (by omega) rfl ?_
        refine xo_mv rfl rfl rfl ?_
        with_reducible refine xo_nil ?_
        with_reducible repeat (first | refine xq_then ?_ | refine xq_blockN ?_ | refine xq_scopeN ?_)
        exact xq_again _ _ _ _ _ (k + 1, insN x.f0 come, sum) ⟨hlt, hsB.mono (by simp only; omega), hpl⟩ (by first | omega | (simp only; omega)) ⟨rfl, rfl, rfl, rfl, rfl, rfl, rfl, rfl, rfl, trivial⟩ (List.sublist_cons_self _ _)
  have hge : ¬ k < r.length := by have := of_decide_eq_false h; omega
  rw [List.drop_of_length_le (by omega), piecesL] at hpl
  with_reducible refine xc_exit ?_
  with_reducible repeat (first | refine xq_blockX ?_ | refine xq_thenE ?_ | refine xq_blockE rfl ?_ | refine xq_scopeE ?_)
  with_reducible repeat (first | refine xq_then ?_ | refine xq_blockN ?_ | refine xq_scopeN ?_)
  with_reducible repeat refine xc_seq ?_
  with_reducible refine xc_region ?_
  refine xo_loadN T_ rfl rfl rfl (by repeat (first | exact List.Mem.head _ | apply List.Mem.tail | apply List.mem_append_right)) rfl rfl ?_
  refine xo_store T_ rfl rfl rfl rfl (by repeat (first | exact List.Mem.head _ | exact List.mem_append_left _ (List.Mem.head _) | apply List.mem_append_right | apply List.Mem.tail)) rfl rfl rfl rfl (Upd.tail (Upd.tail (Upd.tail (Upd.tail (Upd.app (by repeat (first | exact Upd.head | apply Upd.tail | apply Upd.app)) _))))) rfl ?_
  refine xo_asg rfl rfl rfl ?_
  with_reducible refine xo_nil ?_
  with_reducible repeat (first | refine xq_then ?_ | refine xq_blockN ?_ | refine xq_scopeN ?_)
  with_reducible repeat refine xc_seq ?_
  with_reducible refine xc_ret ?_
  with_reducible repeat (first | refine xq_thenR ?_ | refine xq_blockR ?_ | refine xq_scopeR ?_)
  exact xq_retC1 T_ rfl rfl rfl rfl (by repeat (first | exact List.Mem.head _ | exact List.mem_append_left _ (List.Mem.head _) | apply List.mem_append_right | apply List.Mem.tail)) rfl fun w' hw => ⟨by rw [e1, e2, hpl]; rfl, hw.kx.below⟩
theorem pieces_enters : ∀ args w, (callFunc 13 args).run Tryd.prog w = .ok (.enter 13 args) w := enters_of Tryd.func13 (by kernel_rfl) rfl
end Go.Proofs.YtcmepdamemnbkaaDoor
namespace Go.Proofs.YtcmepdamemnbkaaDoor
open Go.RowKit Go.Proofs.YtcmepdamemnbkaaDoorW.PrintWords
set_option linter.unusedVariables false
set_option linter.unusedSimpArgs false
end Go.Proofs.YtcmepdamemnbkaaDoor
namespace Go.Proofs.YtcmepdamemnbkaaDoor
open Go.RowKit Go.Proofs.YtcmepdamemnbkaaDoorW.PrintWords
set_option linter.unusedVariables false
set_option linter.unusedSimpArgs false
end Go.Proofs.YtcmepdamemnbkaaDoor
namespace Go.Proofs.YtcmepdamemnbkaaDoor
open Go.RowKit Go.Proofs.YtcmepdamemnbkaaDoorW.PrintWords
set_option linter.unusedVariables false
set_option linter.unusedSimpArgs false
end Go.Proofs.YtcmepdamemnbkaaDoor
namespace Go.Proofs.YtcmepdamemnbkaaDoor
open Go.RowKit Go.Proofs.YtcmepdamemnbkaaDoorW.PrintWords
set_option linter.unusedVariables false
set_option linter.unusedSimpArgs false
end Go.Proofs.YtcmepdamemnbkaaDoor
namespace Go.Proofs.YtcmepdamemnbkaaDoor
open Go.Shelf Go.RowKit
set_option maxRecDepth 100000
def ren189 : Ren := ⟨fun n => bif Nat.beq n 125 then 85 else bif Nat.beq n 128 then 96 else bif Nat.beq n 129 then 97 else bif Nat.beq n 189 then 72 else bif Nat.beq n 215 then 98 else bif Nat.beq n 216 then 93 else bif Nat.beq n 257 then 84 else bif Nat.beq n 294 then 87 else bif Nat.beq n 295 then 88 else bif Nat.beq n 296 then 89 else bif Nat.beq n 297 then 90 else bif Nat.beq n 298 then 91 else bif Nat.beq n 299 then 92 else bif Nat.beq n 300 then 94 else bif Nat.beq n 301 then 95 else bif Nat.beq n 328 then 99 else bif Nat.beq n 329 then 100 else bif Nat.beq n 330 then 101 else bif Nat.beq n 331 then 102 else bif Nat.beq n 332 then 103 else bif Nat.beq n 343 then 104 else n, fun n => bif Nat.beq n 0 then 0 else bif Nat.beq n 3 then 3 else bif Nat.beq n 4 then 4 else bif Nat.beq n 5 then 5 else bif Nat.beq n 9 then 9 else bif Nat.beq n 28 then 33 else bif Nat.beq n 46 then 126 else bif Nat.beq n 51 then 59 else bif Nat.beq n 53 then 138 else bif Nat.beq n 131 then 65 else bif Nat.beq n 182 then 129 else bif Nat.beq n 183 then 130 else bif Nat.beq n 218 then 139 else bif Nat.beq n 222 then 143 else bif Nat.beq n 228 then 145 else bif Nat.beq n 229 then 146 else n, fun n => n⟩
theorem lays189 : Lays.n189 Tryd.prog ren189 where
  mixed := T_.mixed
  f125 := by kernel_rfl
  f128 := by kernel_rfl
  f129 := by kernel_rfl
  f189 := by kernel_rfl
  f215 := by kernel_rfl
  f216 := by kernel_rfl
  f257 := by kernel_rfl
  f294 := by kernel_rfl
  f295 := by kernel_rfl
  f296 := by kernel_rfl
  f297 := by kernel_rfl
  f298 := by kernel_rfl
  f299 := by kernel_rfl
  f300 := by kernel_rfl
  f301 := by kernel_rfl
  f328 := by kernel_rfl
  f329 := by kernel_rfl
  f330 := by kernel_rfl
  f331 := by kernel_rfl
  f332 := by kernel_rfl
  f343 := by kernel_rfl
  t0 := by kernel_rfl
  a0 := fun w => by kernel_rfl
  z0 := fun w => by kernel_rfl
  v0 := fun w => by kernel_rfl
  t3 := by kernel_rfl
  a3 := fun w => by kernel_rfl
  z3 := fun w => by kernel_rfl
  v3 := fun w => by kernel_rfl
  t4 := by kernel_rfl
  a4 := fun w => by kernel_rfl
  z4 := fun w => by kernel_rfl
  v4 := fun w => by kernel_rfl
  t5 := by kernel_rfl
  a5 := fun w => by kernel_rfl
  z5 := fun w => by kernel_rfl
  v5 := fun w => by kernel_rfl
  t9 := by kernel_rfl
  a9 := fun w => by kernel_rfl
  z9 := fun w => by kernel_rfl
  v9 := fun w => by kernel_rfl
  t28 := by kernel_rfl
  a28 := fun w => by kernel_rfl
  z28 := fun w => by kernel_rfl
  v28 := fun w => by kernel_rfl
  t46 := by kernel_rfl
  a46 := fun w => by kernel_rfl
  z46 := fun w => by kernel_rfl
  v46 := fun w => by kernel_rfl
  t51 := by kernel_rfl
  a51 := fun w => by kernel_rfl
  z51 := fun w => by kernel_rfl
  v51 := fun w => by kernel_rfl
  t53 := by kernel_rfl
  a53 := fun w => by kernel_rfl
  z53 := fun w => by kernel_rfl
  v53 := fun w => by kernel_rfl
  t131 := by kernel_rfl
  a131 := fun w => by kernel_rfl
  z131 := fun w => by kernel_rfl
  v131 := fun w => by kernel_rfl
  t182 := by kernel_rfl
  a182 := fun w => by kernel_rfl
  z182 := fun w => by kernel_rfl
  v182 := fun w => by kernel_rfl
  t183 := by kernel_rfl
  a183 := fun w => by kernel_rfl
  z183 := fun w => by kernel_rfl
  v183 := fun w => by kernel_rfl
  t218 := by kernel_rfl
  a218 := fun w => by kernel_rfl
  z218 := fun w => by kernel_rfl
  v218 := fun w => by kernel_rfl
  t222 := by kernel_rfl
  a222 := fun w => by kernel_rfl
  z222 := fun w => by kernel_rfl
  v222 := fun w => by kernel_rfl
  t228 := by kernel_rfl
  a228 := fun w => by kernel_rfl
  z228 := fun w => by kernel_rfl
  v228 := fun w => by kernel_rfl
  t229 := by kernel_rfl
  a229 := fun w => by kernel_rfl
  z229 := fun w => by kernel_rfl
  v229 := fun w => by kernel_rfl
end Go.Proofs.YtcmepdamemnbkaaDoor
namespace Go.Proofs.YtcmepdamemnbkaaDoor
open Go.RowKit
set_option linter.unusedVariables false
set_option linter.unusedSimpArgs false
set_option maxHeartbeats 4000000 in
theorem appendSeqS_calls (g : Nat) (cs : List Value) (eg : ∀ args w, (callFunc g args).run Tryd.prog w = .ok (.enter g args) w) (need : Nat → Prop) (S : List Int → Prop) (M : Nat) (w : World) (hit : IterS Tryd.prog g cs w need S M) (hneed : ∀ k, need k → k < w.heap.size) (hlen : M ≤ 1000000) :
    Calls Tryd.prog 74 #[.slice none 0 0, .func (.func g) #[] cs.toArray] w fun e w' => ∃ (xs : List Int) (r : RowR), S xs ∧ e = .returned (valR r xs.length) ∧ RowAt 3 w.heap.size w' r xs ∧ Below w.heap.size w w' := by
  refine x_callsM 3 Tryd.func74 rfl rfl rfl (WOK.start XNone w) ?_
  with_reducible repeat refine xc_seq ?_
  with_reducible refine xc_region ?_
  refine xo_box rfl rfl rfl rfl (fun b2 => ?_)
  refine xo_asg rfl rfl rfl ?_
  with_reducible refine xo_nil ?_
  with_reducible repeat (first | refine xq_then ?_ | refine xq_blockN ?_ | refine xq_scopeN ?_)
  with_reducible repeat refine xc_seq ?_
  with_reducible refine xc_region ?_
  refine xo_mv rfl rfl rfl ?_
  with_reducible refine xo_nil ?_
  with_reducible repeat (first | refine xq_then ?_ | refine xq_blockN ?_ | refine xq_scopeN ?_)
  with_reducible repeat refine xc_seq ?_
  with_reducible refine xc_block ?_
  refine xc_know (φ := w.heap.size ≤ b2) (fun w1 hw1 => hw1.own (by repeat (first | exact List.Mem.head _ | apply List.Mem.tail | apply List.mem_append_right))) fun hb2 => ?_
  refine xc_rangeS (by omega) rfl eg rfl (fun k => k < w.heap.size) (fun w1 hw1 k hk => Nat.lt_of_lt_of_le hk hw1.kx.size) (fun w1 hw1 => hit w1 hw1.kx.size (fun k hk => hw1.kx.below.block k (hneed k hk)) _ hneed _)
    (γ := RowR) (fun ys r => (r = none → ys = []) ∧ ∀ p, r = some p → w.heap.size ≤ p.1) (fun ys r => hpR 3 1 r ys.length (ys.map (.int .i64)) ++ [(b2, true, cel [valR r ys.length] 33)]) none ⟨fun _ => rfl, fun p h => by cases h⟩ (List.Sublist.refl _) ?_ ?_ (fun x => [(2, .pointer (some ⟨b2, 0, none⟩)), (5, .int .i64 x)]) ?_ ?_ ?_
  · intro ys r hC e he
    left
    intro o ho
    rcases List.mem_append.1 he with he | he
    · cases r with
      | none => cases he
      | some p =>
        simp only [hpR, List.mem_singleton] at he
        subst he
        obtain ⟨cur, rfl, _⟩ := ho
        rfl
    · simp only [List.mem_singleton] at he
      subst he
      rw [show o = _ from ho]
      rfl
  · rintro ys r ⟨_, hC⟩ e he _
    rcases List.mem_append.1 he with he | he
    · cases r with
      | none => cases he
      | some p =>
        simp only [hpR, List.mem_singleton] at he
        subst he
        exact Nat.not_lt.2 (hC p rfl)
    · simp only [List.mem_singleton] at he
      subst he
      exact Nat.not_lt.2 hb2
  · intro l x W
    with_reducible repeat refine xc_seq ?_
    with_reducible refine xc_region ?_
    refine xo_asg rfl rfl rfl ?_
    with_reducible refine xo_nil ?_
    with_reducible repeat (first | refine xq_then ?_ | refine xq_blockN ?_ | refine xq_scopeN ?_)
    exact fun a w1 ha hw1 => ⟨ha.sub ⟨rfl, rfl, trivial⟩, hw1.kx⟩
  · rintro l ys x r W ⟨hC1, hC2⟩ hlt hW
    with_reducible repeat refine xc_seq ?_
    with_reducible refine xc_block ?_
    with_reducible repeat refine xc_seq ?_
    with_reducible refine xc_region ?_
    refine xo_load0 T_ rfl rfl rfl (by repeat (first | exact List.Mem.head _ | apply List.Mem.tail | apply List.mem_append_right)) rfl rfl ?_
    refine xo_mv rfl rfl rfl ?_
    refine xo_bs1 T_ rfl rfl rfl rfl rfl rfl rfl rfl (fun b10 => ?_)
    refine xo_app TR_ rfl rfl rfl rfl rfl rfl rfl rfl (by simp) rfl rfl (fun h => by rw [hC1 h]; rfl) (by omega) rfl rfl (fun r' hr' => ?_)
    rcases r' with _ | ⟨g', cap'⟩
    · exact absurd rfl hr'
    refine xo_store T_ rfl rfl rfl rfl (by repeat (first | exact List.Mem.head _ | apply List.Mem.tail | apply List.mem_append_right)) rfl rfl rfl rfl (by repeat (first | exact Upd.head | apply Upd.tail | apply Upd.app)) rfl ?_
    with_reducible refine xo_nil ?_
    with_reducible repeat (first | refine xq_then ?_ | refine xq_blockN ?_ | refine xq_scopeN ?_)
    intro a w1 ha hw1
    refine ⟨some (g', cap'), ⟨(fun h => by cases h), fun p hp => ?_⟩, ?_⟩
    · cases hp
      rcases hw1.ow (g', true, _) (by repeat (first | exact List.Mem.head _ | apply List.Mem.tail | apply List.mem_append_right)) rfl with h1 | ⟨e, he, _, rfl⟩
      · exact Nat.le_trans hW.kx.size h1
      · rcases List.mem_append.1 he with he | he
        · cases r with
          | none => cases he
          | some p =>
            simp only [hpR, List.mem_singleton] at he
            subst he
            exact hC2 p rfl
        · simp only [List.mem_singleton] at he
          subst he
          exact hb2
    · have e1 : (ys ++ [x]).length = ys.length + 1 := by simp
      have e2 : (ys ++ [x]).map (Value.int .i64) = ys.map (Value.int .i64) ++ [Value.int .i64 x] := by simp
      show WOK W _ (hpR 3 1 (some (g', cap')) (ys ++ [x]).length ((ys ++ [x]).map (.int .i64)) ++ [(b2, true, cel [valR (some (g', cap')) (ys ++ [x]).length] 33)]) w1
      rw [e1, e2]
      exact hw1
  · rintro D xs r hS ⟨hC1, hC2⟩
    with_reducible repeat (first | refine xq_then ?_ | refine xq_blockN ?_ | refine xq_scopeN ?_)
    with_reducible repeat refine xc_seq ?_
    with_reducible refine xc_region ?_
    refine xo_load0 T_ rfl rfl rfl (by repeat (first | exact List.Mem.head _ | apply List.Mem.tail | apply List.mem_append_right)) rfl rfl ?_
    refine xo_asg rfl rfl rfl ?_
    with_reducible refine xo_nil ?_
    with_reducible repeat (first | refine xq_then ?_ | refine xq_blockN ?_ | refine xq_scopeN ?_)
    with_reducible repeat refine xc_seq ?_
    with_reducible refine xc_ret ?_
    with_reducible repeat (first | refine xq_thenR ?_ | refine xq_blockR ?_ | refine xq_scopeR ?_)
    refine xq_retM1 rfl rfl fun w1 hw1 => ⟨xs, r, hS, rfl, ⟨hC1, fun p hp => ⟨hC2 p hp, ?_⟩⟩, hw1.kx.below⟩
    subst hp
    exact hw1.bl (p.1, true, orow 3 1 xs.length p.2 (xs.map (.int .i64))) (List.Mem.head _)
theorem collectS_calls (g : Nat) (cs : List Value) (eg : ∀ args w, (callFunc g args).run Tryd.prog w = .ok (.enter g args) w) (need : Nat → Prop) (S : List Int → Prop) (M : Nat) (w : World) (hit : IterS Tryd.prog g cs w need S M) (hneed : ∀ k, need k → k < w.heap.size) (hlen : M ≤ 1000000) :
    Calls Tryd.prog 56 #[.func (.func g) #[] cs.toArray] w fun e w' => ∃ (xs : List Int) (r : RowR), S xs ∧ e = .returned (valR r xs.length) ∧ RowAt 3 w.heap.size w' r xs ∧ Below w.heap.size w w' := by
  have eg2 := enters_of Tryd.func74 (by kernel_rfl) rfl
  refine x_calls (X := XNone) Tryd.func56 rfl rfl rfl ?_
  with_reducible repeat refine xc_seq ?_
  with_reducible refine xc_region ?_
  refine xo_asg rfl rfl rfl ?_
  with_reducible refine xo_nil ?_
  with_reducible repeat (first | refine xq_then ?_ | refine xq_blockN ?_ | refine xq_scopeN ?_)
  with_reducible repeat refine xc_seq ?_
  with_reducible refine xc_region ?_
  refine xo_mv rfl rfl rfl ?_
  refine xo_call (fs := []) (cs := []) rfl rfl rfl eg2 rfl (fun w1 hw1 => (appendSeqS_calls g cs eg need S M w1 (fun w2 h1 h2 => hit w2 (Nat.le_trans hw1.kx.size h1) (fun k hk => (h2 k hk).trans (hw1.kx.below.block k (hneed k hk)))) (fun k hk => Nat.lt_of_lt_of_le (hneed k hk) hw1.kx.size) hlen).mono ?_)
  rintro e w2 ⟨xs, r, hS, rfl, hrow, hb⟩
  refine ⟨_, _, rfl, hw1.row hb hrow, ?_⟩
  refine xo_asg rfl rfl rfl ?_
  with_reducible refine xo_nil ?_
  with_reducible repeat (first | refine xq_then ?_ | refine xq_blockN ?_ | refine xq_scopeN ?_)
  with_reducible repeat refine xc_seq ?_
  with_reducible refine xc_ret ?_
  with_reducible repeat (first | refine xq_thenR ?_ | refine xq_blockR ?_ | refine xq_scopeR ?_)
  exact xq_ret1 rfl rfl fun w3 hw3 => ⟨xs, r, hS, rfl, RowAt.of hw3 hrow.1, hw3.kx.below⟩
end Go.Proofs.YtcmepdamemnbkaaDoor
namespace Go.Proofs.YtcmepdamemnbkaaDoor
open Go.RowKit
set_option linter.unusedVariables false
set_option linter.unusedSimpArgs false
theorem keys_uniq {es : Array MapEntry} {c : Nat} {l : List (Int × Value)} (hE : Ents es c l) {e e' : MapEntry} (he : e ∈ es.toList) (he' : e' ∈ es.toList) (h : e.key = e'.key) : e.born = e'.born := by
  have h1 : (es.toList.map (·.key)) = l.map (fun p => Value.int .i64 p.1) := by
    have := congrArg (List.map Prod.fst) hE.is
    simpa [List.map_map, Function.comp_def, kvE, kvI] using this
  have h2 : (es.toList.map (·.key)).Nodup := by
    rw [h1, show (fun p : Int × Value => Value.int .i64 p.1) = (fun n => Value.int .i64 n) ∘ Prod.fst from rfl, ← List.map_map]
    refine List.Pairwise.map _ ?_ hE.keys
    intro a b hab q
    injection q with _ q
    exact hab q
  obtain ⟨i, hi, rfl⟩ := List.getElem_of_mem he
  obtain ⟨j, hj, rfl⟩ := List.getElem_of_mem he'
  by_cases e : i = j
  · subst e; rfl
  · exfalso
    rw [List.nodup_iff_pairwise_ne, List.pairwise_iff_getElem] at h2
    by_cases hij : i < j
    · exact h2 i j (by simpa using hi) (by simpa using hj) hij (by simpa using h)
    · exact h2 j i (by simpa using hj) (by simpa using hi) (by omega) (by simpa using h.symm)
theorem keys_nodup {es : Array MapEntry} {c : Nat} {s : List Int} (hE : Ents es c (setV s)) : s.Nodup := by
  have h := hE.keys
  simpa [setV, List.map_map, Function.comp_def] using h
/-- what has been yielded: the keys of the entries that were seen -/
def Seen (es : Array MapEntry) (seen : Array Nat) (ys : List Int) : Prop := ys.Nodup ∧ ∀ n, n ∈ ys ↔ ∃ e ∈ es.toList, seen.contains e.born = true ∧ e.key = .int .i64 n
theorem Seen.step {es : Array MapEntry} {c : Nat} {s : List Int} (hE : Ents es c (setV s)) {seen : Array Nat} {ys : List Int} (h : Seen es seen ys) {e : MapEntry} (he : e ∈ es.toList) (hns : seen.contains e.born = false) {k : Int} (hk : e.key = .int .i64 k) : Seen es (seen.push e.born) (ys ++ [k]) := by
  obtain ⟨h1, h2⟩ := h
  refine ⟨List.nodup_append.2 ⟨h1, by simp, fun a ha b hb q => ?_⟩, fun n => ?_⟩
  · simp at hb
    subst hb
    subst q
    obtain ⟨e', he', h3, h4⟩ := (h2 a).1 ha
    rw [keys_uniq hE he' he (h4.trans hk.symm)] at h3
    rw [h3] at hns
    cases hns
  · rw [List.mem_append, List.mem_singleton, h2]
    constructor
    · rintro (⟨e', he', h3, h4⟩ | rfl)
      · exact ⟨e', he', by simp at h3 ⊢; exact .inl h3, h4⟩
      · exact ⟨e, he, by simp, hk⟩
    · rintro ⟨e', he', h3, h4⟩
      simp at h3
      rcases h3 with h3 | h3
      · exact .inl ⟨e', he', by simpa using h3, h4⟩
      · right
        obtain ⟨i, hi, rfl⟩ := List.getElem_of_mem he
        obtain ⟨j, hj, rfl⟩ := List.getElem_of_mem he'
        have hij : i = j := by
          have ho := hE.once
          by_cases q : i = j
          · exact q
          · exfalso
            rw [List.nodup_iff_pairwise_ne, List.pairwise_iff_getElem] at ho
            by_cases hl : i < j
            · exact ho i j (by simpa using hi) (by simpa using hj) hl (by simpa using h3.symm)
            · exact ho j i (by simpa using hj) (by simpa using hi) (by omega) (by simpa using h3)
        subst hij
        rw [hk] at h4
        injection h4 with _ h4
        exact h4.symm
theorem Seen.sub {es : Array MapEntry} {c : Nat} {s : List Int} (hE : Ents es c (setV s)) {seen : Array Nat} {ys : List Int} (h : Seen es seen ys) : ∀ n ∈ ys, n ∈ s := fun n hn => by
  obtain ⟨e, he, _, h4⟩ := (h.2 n).1 hn
  obtain ⟨k, hk, h5, _⟩ := hE.setV he
  rw [h5] at h4
  injection h4 with _ h4
  rwa [← h4]
theorem Seen.len {es : Array MapEntry} {c : Nat} {s : List Int} (hE : Ents es c (setV s)) {seen : Array Nat} {ys : List Int} (h : Seen es seen ys) : ys.length ≤ s.length := by
  have hp : (s.filter fun n => decide (n ∈ ys)).Perm ys := (List.perm_ext_iff_of_nodup ((keys_nodup hE).filter _) h.1).2 fun n => by
    simp only [List.mem_filter, decide_eq_true_eq]
    exact ⟨fun q => q.2, fun q => ⟨h.sub hE n q, q⟩⟩
  rw [← hp.length_eq]
  exact List.length_filter_le _ _
theorem Seen.all {es : Array MapEntry} {c : Nat} {s : List Int} (hE : Ents es c (setV s)) {seen : Array Nat} {ys : List Int} (h : Seen es seen ys) (hall : ∀ e ∈ es.toList, seen.contains e.born = true) : ys.Perm s :=
  (List.perm_ext_iff_of_nodup h.1 (keys_nodup hE)).2 fun n => ⟨h.sub hE n, fun hn => by
    have : (Value.int .i64 n, Value.bool true) ∈ es.toList.map kvE := by
      rw [hE.is, Go.Proofs.YtcmepdamemnbkaaDoor.setV, List.map_map]
      exact List.mem_map.2 ⟨n, hn, rfl⟩
    obtain ⟨e, he, q⟩ := List.mem_map.1 this
    exact (h.2 n).2 ⟨e, he, hall e he, congrArg Prod.fst q⟩⟩
theorem keysIter_enters : ∀ args w, (callFunc 78 args).run Tryd.prog w = .ok (.enter 78 args) w := enters_of Tryd.func78 (by kernel_rfl) rfl
set_option maxHeartbeats 4000000 in
theorem iter_keys (s : List Int) (M0 B : Nat) (wB : World) (hB : wB.heap[B]? = some (.cells #[.map (some M0)] 62 (0, 0))) (hM : IMap wB M0 (setV s)) :
    IterS Tryd.prog 78 [.pointer (some ⟨B, 0, none⟩)] wB (fun k => k = B ∨ k = M0) (fun ys => ys.Perm s) s.length := by
  intro w hszB hneed K hK m l J Jx W hW hJ hJx hY h0
  have ltB : B < wB.heap.size := (Array.getElem?_eq_some_iff.1 hB).1
  have ltM := hM.lt
  have gB : W.heap[B]? = _ := (hW.block B (by omega)).trans ((hneed B (.inl rfl)).trans hB)
  have gM : IMap W M0 (setV s) := hM.at_ ((hW.block M0 (by omega)).trans (hneed M0 (.inr rfl)))
  have nBM : B ≠ M0 := fun e => by obtain ⟨es, cl, h, _⟩ := gM; rw [← e, gB] at h; cases h
  have hszW := hW.size
  have hw0 : WOK W XNone [(B, false, cel [.map (some M0)] 62), (M0, false, hmap (setV s))] W := by
    refine ⟨Kx.refl _ W, ?_, by simp [nBM], by simp⟩
    intro e he
    simp only [List.mem_cons, List.not_mem_nil, or_false] at he
    rcases he with rfl | rfl
    · exact ⟨_, gB, rfl⟩
    · exact hmap_of gM
  refine x_iter Tryd.func78 rfl rfl rfl hw0 ?_
  with_reducible repeat refine xc_seq ?_
  with_reducible refine xc_region ?_
  refine xo_load0 T_ rfl rfl rfl (by repeat (first | exact List.Mem.head _ | apply List.Mem.tail | apply List.mem_append_right)) rfl rfl ?_
  refine xo_rangeM T_ rfl rfl rfl (by repeat (first | exact List.Mem.head _ | apply List.Mem.tail | apply List.mem_append_right)) (fun es c => Rep.tail Rep.head) rfl (fun r5 es c hE => ?_)
  with_reducible refine xo_nil ?_
  with_reducible repeat (first | refine xq_then ?_ | refine xq_blockN ?_ | refine xq_scopeN ?_)
  with_reducible repeat refine xc_seq ?_
  with_reducible refine xc_block ?_
  refine xc_loopJ (γ := Array Nat × List Int) (fun q => Seen es q.1 q.2) (fun q => [(0, .func (.yield l) #[] #[]), (5, .pointer (some ⟨r5, 0, none⟩))])
    (fun q => [(r5, true, hiter M0 c q.1), (B, false, cel [.map (some M0)] 62), (M0, false, hmapE es c)]) (fun q w => J q.2 w ∧ W.heap.size ≤ r5 ∧ W.heap.size ≤ w.heap.size) (fun q => s.length - q.2.length) (#[], []) ⟨List.nodup_nil, fun n => by simp⟩ ⟨rfl, rfl, trivial⟩
    (fun w1 hw1 => ⟨hw1.bok (by repeat (first | exact List.Sublist.refl _ | apply List.Sublist.cons_cons | apply List.Sublist.cons | exact List.nil_sublist _)), hJ _ _ _ none h0 (hw1.kx.grown (fun k q => q.elim)) (fun r e => by cases e), hw1.own (b := r5) (by repeat (first | exact List.Mem.head _ | apply List.Mem.tail | apply List.mem_append_right)), hw1.kx.size⟩) ?_
  rintro ⟨seen, ys⟩ hseen wr hbok ⟨hJr, hr5, hszr⟩
  simp only at hseen hJr ⊢
  have hXW : ∀ seen b, XW [(r5, true, hiter M0 c seen), (B, false, cel [.map (some M0)] 62), (M0, false, hmapE es c)] b → r5 = b := by
    rintro seen b ⟨e, he, hwr, rfl⟩
    simp only [List.mem_cons, List.not_mem_nil, or_false] at he
    rcases he with rfl | rfl | rfl
    · rfl
    · cases hwr
    · cases hwr
  have hIr : wr.heap[r5]? = some (.mapIter (some M0) c seen c) := by
    obtain ⟨o, h5, h6⟩ := hbok.bl (r5, true, hiter M0 c seen) (by repeat (first | exact List.Mem.head _ | apply List.Mem.tail | apply List.mem_append_right))
    rw [h5]
    exact congrArg some h6
  have hwalk : ∀ (wx : World) (sn : Array Nat), wx.heap[r5]? = some (.mapIter (some M0) c sn c) → ∀ q, some r5 = some q → W.heap.size ≤ q ∧ ∃ o : Obj, wx.heap[q]? = some o ∧ o.isWalk = true := fun wx sn h q e => by
    cases e
    exact ⟨hr5, _, h, rfl⟩
  have hJn : ∀ (X : Nat → Prop) (w1 : World), (∀ b, X b → r5 = b) → Kx X wr w1 → J ys w1 := fun X w1 hX kx => hJ ys wr w1 (some r5) hJr (kx.grown (fun k q => congrArg some (hX k q))) (hwalk wr seen hIr)
  with_reducible repeat refine xc_seq ?_
  with_reducible refine xc_region ?_
  refine xo_next rfl rfl (by repeat (first | exact List.Mem.head _ | apply List.Mem.tail | apply List.mem_append_right)) (by repeat (first | exact List.Mem.head _ | apply List.Mem.tail | apply List.mem_append_right)) hE (fun seen' => Upd.head) rfl (fun hall => ?_) (fun e he hns => ?_)
  · refine xo_ext rfl rfl rfl rfl ?_
    with_reducible refine xo_nil ?_
    with_reducible repeat (first | refine xq_then ?_ | refine xq_blockN ?_ | refine xq_scopeN ?_)
    with_reducible repeat refine xc_seq ?_
    refine xc_condF rfl ?_
    with_reducible refine xc_exit ?_
    with_reducible repeat (first | refine xq_blockX ?_ | refine xq_thenE ?_ | refine xq_blockE rfl ?_ | refine xq_scopeE ?_)
    exact xq_end0 rfl fun w2 hw2 => ⟨⟨_, rfl⟩, .inl ⟨ys, hseen.all hE hall, hJn _ _ (hXW seen) hw2.kx⟩⟩
  · obtain ⟨k, hk, hk1, hk2⟩ := hE.setV he
    have hst := hseen.step hE he hns hk1
    have hlen : ys.length < s.length := by
      have := hst.len hE
      simp at this
      omega
    rw [hk1, hk2]
    refine xo_ext rfl rfl rfl rfl ?_
    with_reducible refine xo_nil ?_
    with_reducible repeat (first | refine xq_then ?_ | refine xq_blockN ?_ | refine xq_scopeN ?_)
    with_reducible repeat refine xc_seq ?_
    refine xc_condT rfl ?_
    with_reducible refine xc_skip ?_
    with_reducible repeat (first | refine xq_then ?_ | refine xq_blockN ?_ | refine xq_scopeN ?_)
    with_reducible repeat refine xc_seq ?_
    with_reducible refine xc_block ?_
    with_reducible repeat refine xc_seq ?_
    with_reducible refine xc_region ?_
    refine xo_entry rfl rfl (by repeat (first | exact List.Mem.head _ | apply List.Mem.tail | apply List.mem_append_right)) (by repeat (first | exact List.Mem.head _ | apply List.Mem.tail | apply List.mem_append_right)) hE he rfl ?_
    rw [hk1, hk2]
    refine xo_ext rfl rfl rfl rfl ?_
    refine xo_asg rfl rfl rfl ?_
    with_reducible refine xo_nil ?_
    with_reducible repeat (first | refine xq_then ?_ | refine xq_blockN ?_ | refine xq_scopeN ?_)
    with_reducible repeat refine xc_seq ?_
    with_reducible refine xc_region ?_
    refine xo_mv rfl rfl rfl ?_
    refine xo_mv rfl rfl rfl ?_
    refine xo_yield rfl rfl rfl rfl (fun w1 hw1 => ?_)
    obtain ⟨fn, tmps, assign, body, hy1, hy2⟩ := hY ys k w1 (hJn _ _ (hXW _) hw1.kx) hlen
    refine ⟨fn, tmps, assign, body, hy1, hy2.mono ?_⟩
    have hI1 : w1.heap[r5]? = some (.mapIter (some M0) c (seen.push e.born) c) := by
      obtain ⟨o, h5, h6⟩ := hw1.bl (r5, true, hiter M0 c (seen.push e.born)) (by repeat (first | exact List.Mem.head _ | apply List.Mem.tail | apply List.mem_append_right))
      rw [h5]
      exact congrArg some h6
    have hB1 := hw1.obj (b := B) (wr := false) (cs := [.map (some M0)]) (t := 62) (by repeat (first | exact List.Mem.head _ | apply List.Mem.tail | apply List.mem_append_right))
    have hM1 : w1.heap[M0]? = some (.map es c) := by
      obtain ⟨o, h5, h6⟩ := hw1.bl (M0, false, hmapE es c) (by repeat (first | exact List.Mem.head _ | apply List.Mem.tail | apply List.mem_append_right))
      rw [h5]
      exact congrArg some h6
    have hsz1 := hw1.kx.size
    clear hw1 hy1 hy2
    rintro e2 W3 (⟨rfl, hJ3, hk3⟩ | ⟨rfl, hJx3⟩)
    · have hI3 := hk3.2.2 r5 _ (by omega) hI1 rfl
      have hB3 := (hk3.1 B (hK B (.inl rfl))).trans hB1
      have hM3 := (hk3.1 M0 (hK M0 (.inr rfl))).trans hM1
      have n5B : r5 ≠ B := by omega
      have n5M : r5 ≠ M0 := by omega
      have hsz3 : W.heap.size ≤ W3.heap.size := by have := hk3.2.1; omega
      have hbok3 : BOK [(r5, true, hiter M0 c (seen.push e.born)), (B, false, cel [.map (some M0)] 62), (M0, false, hmapE es c)] W3 := by
        refine ⟨?_, by simp [n5B, n5M, nBM]⟩
        intro e he
        simp only [List.mem_cons, List.not_mem_nil, or_false] at he
        rcases he with rfl | rfl | rfl
        · exact ⟨_, hI3, rfl⟩
        · exact ⟨_, hB3, rfl⟩
        · exact ⟨_, hM3, rfl⟩
      refine ⟨.bool true, _, W3, _, rfl, hbok3.wok, ?_⟩
      refine xo_notOp rfl rfl rfl ?_
      with_reducible refine xo_nil ?_
      with_reducible repeat (first | refine xq_then ?_ | refine xq_blockN ?_ | refine xq_scopeN ?_)
      with_reducible repeat refine xc_seq ?_
      refine xc_condF rfl ?_
      with_reducible refine xc_skip ?_
      with_reducible repeat (first | refine xq_then ?_ | refine xq_blockN ?_ | refine xq_scopeN ?_)
      refine xq_againJ _ _ _ _ _ _ (seen.push e.born, ys ++ [k]) hst (by simp only [List.length_append, List.length_cons, List.length_nil]; omega) ⟨rfl, rfl, trivial⟩
        (fun w1 hw1 => ⟨hw1.bok (by repeat (first | exact List.Sublist.refl _ | apply List.Sublist.cons_cons | apply List.Sublist.cons | exact List.nil_sublist _)), hJ _ W3 w1 (some r5) hJ3 (hw1.kx.grown (fun k q => congrArg some (hXW _ k q))) (hwalk W3 _ hI3), hr5, Nat.le_trans hsz3 hw1.kx.size⟩)
    · refine ⟨.bool false, [], W3, XNone, rfl, WOK.start _ _, ?_⟩
      refine xo_notOp rfl rfl rfl ?_
      with_reducible refine xo_nil ?_
      with_reducible repeat (first | refine xq_then ?_ | refine xq_blockN ?_ | refine xq_scopeN ?_)
      with_reducible repeat refine xc_seq ?_
      refine xc_condT rfl ?_
      with_reducible repeat refine xc_seq ?_
      with_reducible refine xc_ret ?_
      with_reducible repeat (first | refine xq_thenR ?_ | refine xq_blockR ?_ | refine xq_scopeR ?_)
      exact xq_ret0 rfl fun w2 hw2 => ⟨⟨_, rfl⟩, .inr ⟨_, trivial, hJx _ W3 w2 none hJx3 (hw2.kx.grown (fun k q => q.elim)) (fun r e => by cases e)⟩⟩
end Go.Proofs.YtcmepdamemnbkaaDoor
namespace Go.Proofs.YtcmepdamemnbkaaDoor
open Go.RowKit
set_option linter.unusedVariables false
set_option linter.unusedSimpArgs false
def sortF (xs : List Int) : List Int := xs.mergeSort fun x y => decide (x ≤ y)
theorem sortF_len (xs : List Int) : (sortF xs).length = xs.length := by simp [sortF]
theorem sort_enters : ∀ args w, (callFunc 72 args).run Tryd.prog w = .ok (.enter 72 args) w := enters_of Tryd.func72 (by kernel_rfl) rfl
theorem sort_calls (b cap : Nat) (xs : List Int) (w : World) (o : Obj) (h1 : w.heap[b]? = some o) (h2 : orow 3 1 xs.length cap (xs.map (.int .i64)) o) (hl : xs.length ≤ 1000000) :
    Calls Tryd.prog 72 #[.slice (some ⟨b, 0, none⟩) xs.length cap] w fun e w' => e = .returned (.tuple #[]) ∧ Kx (fun k => k = b) w w' ∧ ∃ o', w'.heap[b]? = some o' ∧ orow 3 1 xs.length cap ((sortF xs).map (.int .i64)) o' := by
  obtain ⟨cur, rfl, h5, h6, h7, h8⟩ := h2
  rw [Nat.mul_one] at h7 h8
  have hlt : b < w.heap.size := (Array.getElem?_eq_some_iff.1 h1).1
  have hc := Any.slices_Sort_int lays189 b 0 cap xs w (holds_of_blockI h1 h8) hlt (by omega)
  refine Calls.mono (show Calls Tryd.prog 72 _ _ _ from hc) ?_
  rintro e w' ⟨rfl, n, os, rfl⟩
  have hg := grownBy_sortedI (w := w) (g := b) (n := n) (os := os) (xs.mergeSort fun x y => decide (x ≤ y)).toArray
  refine ⟨rfl, ⟨hg.os, hg.tape, hg.output, hg.size, fun k hk hne => hg.block k hk (fun q => hne (Option.some.inj q))⟩, _, heap_sortedI _ h1, _, rfl, h5, h6, ?_, ?_⟩
  · rw [Nat.mul_one, ← h7]
    simp [Sort.putCells]
  · rw [Nat.mul_one]
    have := take_putCellsI cur (sortF xs) (by rw [sortF_len]; omega)
    rw [sortF_len] at this
    exact this
theorem sortF_perm {l l' : List Int} (h : l.Perm l') : sortF l = sortF l' := by
  have tr : ∀ a b c : Int, decide (a ≤ b) = true → decide (b ≤ c) = true → decide (a ≤ c) = true := fun a b c h1 h2 => by simp at *; omega
  have tot : ∀ a b : Int, (decide (a ≤ b) || decide (b ≤ a)) = true := fun a b => by simp; omega
  refine List.Perm.eq_of_pairwise (le := fun a b => decide (a ≤ b) = true) (fun a b _ _ h1 h2 => ?_) (List.pairwise_mergeSort tr tot l) (List.pairwise_mergeSort tr tot l') (((List.mergeSort_perm l _).trans h).trans (List.mergeSort_perm l' _).symm)
  simp only [decide_eq_true_eq] at h1 h2
  omega
theorem keys_enters : ∀ args w, (callFunc 64 args).run Tryd.prog w = .ok (.enter 64 args) w := enters_of Tryd.func64 (by kernel_rfl) rfl
theorem keys_calls (M0 : Nat) (w : World) :
    Calls Tryd.prog 64 #[.map (some M0)] w fun e w' => ∃ B, e = .returned (.func (.func 78) #[] #[.pointer (some ⟨B, 0, none⟩)]) ∧ w.heap.size ≤ B ∧ w'.heap[B]? = some (.cells #[.map (some M0)] 62 (0, 0)) ∧ Below w.heap.size w w' := by
  refine x_calls (X := XNone) Tryd.func64 rfl rfl rfl ?_
  with_reducible repeat refine xc_seq ?_
  with_reducible refine xc_region ?_
  refine xo_box rfl rfl rfl rfl (fun b1 => ?_)
  refine xo_asg rfl rfl rfl ?_
  with_reducible refine xo_nil ?_
  with_reducible repeat (first | refine xq_then ?_ | refine xq_blockN ?_ | refine xq_scopeN ?_)
  with_reducible repeat refine xc_seq ?_
  with_reducible refine xc_region ?_
  refine xo_mkf rfl rfl rfl rfl ?_
  refine xo_asg rfl rfl rfl ?_
  with_reducible refine xo_nil ?_
  with_reducible repeat (first | refine xq_then ?_ | refine xq_blockN ?_ | refine xq_scopeN ?_)
  with_reducible repeat refine xc_seq ?_
  with_reducible refine xc_ret ?_
  with_reducible repeat (first | refine xq_thenR ?_ | refine xq_blockR ?_ | refine xq_scopeR ?_)
  exact xq_ret1 rfl rfl fun w' hw => ⟨b1, rfl, hw.own (by repeat (first | exact List.Mem.head _ | apply List.Mem.tail | apply List.mem_append_right)), hw.obj (wr := true) (cs := [.map (some M0)]) (by repeat (first | exact List.Mem.head _ | apply List.Mem.tail | apply List.mem_append_right)), hw.kx.below⟩
end Go.Proofs.YtcmepdamemnbkaaDoor
namespace Go.Proofs.YtcmepdamemnbkaaDoor
open Go.Shelf Go.RowKit
set_option maxRecDepth 100000
def ren125 : Ren := ⟨fun n => bif Nat.beq n 125 then 85 else bif Nat.beq n 128 then 96 else bif Nat.beq n 129 then 97 else n, fun n => bif Nat.beq n 3 then 3 else bif Nat.beq n 4 then 4 else bif Nat.beq n 5 then 5 else bif Nat.beq n 9 then 9 else bif Nat.beq n 46 then 126 else bif Nat.beq n 51 then 59 else bif Nat.beq n 53 then 138 else n, fun n => n⟩
theorem lays125 : Lays.n125 Tryd.prog ren125 where
  mixed := T_.mixed
  f125 := by kernel_rfl
  f128 := by kernel_rfl
  f129 := by kernel_rfl
  t3 := by kernel_rfl
  a3 := fun w => by kernel_rfl
  z3 := fun w => by kernel_rfl
  v3 := fun w => by kernel_rfl
  t4 := by kernel_rfl
  a4 := fun w => by kernel_rfl
  z4 := fun w => by kernel_rfl
  v4 := fun w => by kernel_rfl
  t5 := by kernel_rfl
  a5 := fun w => by kernel_rfl
  z5 := fun w => by kernel_rfl
  v5 := fun w => by kernel_rfl
  t9 := by kernel_rfl
  a9 := fun w => by kernel_rfl
  z9 := fun w => by kernel_rfl
  v9 := fun w => by kernel_rfl
  t46 := by kernel_rfl
  a46 := fun w => by kernel_rfl
  z46 := fun w => by kernel_rfl
  v46 := fun w => by kernel_rfl
  t51 := by kernel_rfl
  a51 := fun w => by kernel_rfl
  z51 := fun w => by kernel_rfl
  v51 := fun w => by kernel_rfl
  t53 := by kernel_rfl
  a53 := fun w => by kernel_rfl
  z53 := fun w => by kernel_rfl
  v53 := fun w => by kernel_rfl
end Go.Proofs.YtcmepdamemnbkaaDoor
