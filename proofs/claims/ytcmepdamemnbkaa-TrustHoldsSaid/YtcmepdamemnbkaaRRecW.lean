/- ref08.Records: the walk. -/
import Derived.Test.YtcmepdamemnbkaaRRec
namespace Go.Proofs.Ytcmepdamemnbkaa
open Go.RowKit Go.Proofs.YtcmepdamemnbkaaW.PrintWords
set_option linter.unusedVariables false
set_option linter.unusedSimpArgs false
def bad1 (r : List RecT) (k : Nat) (x : RecT) : Bool := !inF 0 9999 x.f0 || (decide (0 < (k : Int)) && decide (x.f0 ≤ (r.getD (k - 1) zRec).f0)) || !inF 1 4 x.f1
def bad2 (x : RecT) : Bool := (decide (x.f1 ≤ 2) && !decide ((x.f2.length : Int) = 0)) || (decide (2 < x.f1) && !inF 1 3 x.f2.length)
def bad3 (r : List RecT) (x : RecT) (way : List Int) (j : Nat) : Bool := decide (x.f0 ≤ way.getD j 0) || decide (atF r (way.getD j 0) < 0) || (decide (0 < (j : Int)) && decide (way.getD j 0 ≤ way.getD (j - 1) 0))
theorem inF_step (p x : Int) (hp : 0 ≤ p) : inF (p + 1) 9999 x = (inF 0 9999 x && !decide (x ≤ p)) := by
  rw [Bool.eq_iff_iff]
  simp [inF]
  omega
theorem bad12 {r : List RecT} {k : Nat} {x : RecT} {last : Int} (hlast : last = if k = 0 then -1 else idAt r (k - 1)) (h0 : ∀ i, i < k → 0 ≤ idAt r i) :
    (inF (last + 1) 9999 x.f0 && inF 1 4 x.f1 && inF (if 3 ≤ x.f1 then 1 else 0) (mostF x.f1) x.f2.length) = (!bad1 r k x && !bad2 x) := by
  subst hlast
  have h1 : inF ((if k = 0 then -1 else idAt r (k - 1)) + 1) 9999 x.f0 = (inF 0 9999 x.f0 && !(decide (0 < (k : Int)) && decide (x.f0 ≤ (r.getD (k - 1) zRec).f0))) := by
    by_cases hk : k = 0
    · subst hk; simp [inF]
    · have := h0 (k - 1) (by omega)
      have e0 : decide (0 < (k : Int)) = true := decide_eq_true (by omega)
      rw [if_neg hk, e0, Bool.true_and]
      exact inF_step _ _ this
  have h2 : inF (if 3 ≤ x.f1 then 1 else 0) (mostF x.f1) x.f2.length = !bad2 x := by
    by_cases h : 3 ≤ x.f1
    · rw [if_pos h, mostF, if_pos h, bad2, decide_eq_false (by omega : ¬ x.f1 ≤ 2), decide_eq_true (by omega : 2 < x.f1)]
      simp
    · rw [if_neg h, mostF, if_neg h, bad2, decide_eq_true (by omega : x.f1 ≤ 2), decide_eq_false (by omega : ¬ 2 < x.f1)]
      by_cases e : (x.f2.length : Int) = 0
      · simp [inF, e]
      · simp [inF, e]
  rw [h1, h2, bad1]
  cases inF 0 9999 x.f0 <;> cases (decide (0 < (k : Int)) && decide (x.f0 ≤ (r.getD (k - 1) zRec).f0)) <;> cases inF 1 4 x.f1 <;> cases bad2 x <;> rfl
set_option maxHeartbeats 16000000 in
theorem records_calls (A : Option Addr) (c : Nat) (r : List RecT) (w : World) (hr : Kd.C recK w A r.length r) (hk : Bytes r) :
    Calls Try.prog 34 #[.slice A r.length c] w fun e w' => e = .returned (.bool (recordedF r)) ∧ Below w.heap.size w w' := by
  have hn := hr.2.1
  refine x_calls (X := XNone) Try.func34 rfl rfl rfl ?_
  with_reducible repeat refine xc_seq ?_
  with_reducible refine xc_region ?_
  refine xo_asg rfl rfl rfl ?_
  with_reducible refine xo_nil ?_
  with_reducible repeat (first | refine xq_then ?_ | refine xq_blockN ?_ | refine xq_scopeN ?_)
  with_reducible repeat refine xc_seq ?_
  with_reducible refine xc_region ?_
  refine xo_mv rfl rfl rfl ?_
  refine xo_len T_ rfl rfl rfl rfl ?_
  refine xo_gtr rfl rfl rfl rfl ?_
  with_reducible refine xo_nil ?_
  with_reducible repeat (first | refine xq_then ?_ | refine xq_blockN ?_ | refine xq_scopeN ?_)
  with_reducible repeat refine xc_seq ?_
  refine xc_cond rfl (fun h12 => ?_) (fun h12 => ?_)
  · with_reducible repeat refine xc_seq ?_
    with_reducible refine xc_region ?_
    refine xo_asg rfl rfl rfl ?_
    with_reducible refine xo_nil ?_
    with_reducible repeat (first | refine xq_then ?_ | refine xq_blockN ?_ | refine xq_scopeN ?_)
    with_reducible repeat refine xc_seq ?_
    with_reducible refine xc_ret ?_
    with_reducible repeat (first | refine xq_thenR ?_ | refine xq_blockR ?_ | refine xq_scopeR ?_)
    have h12 := of_decide_eq_true h12
    exact xq_ret1 rfl rfl fun w' hw => ⟨by rw [recordedF, decide_eq_false (by omega), Bool.and_false], hw.kx.below⟩
  have h12 := of_decide_eq_false h12
  have hrecd : recordedF r = recF [] (-1) r := by rw [recordedF, decide_eq_true (by omega), Bool.and_true]
  with_reducible refine xc_skip ?_
  with_reducible repeat (first | refine xq_then ?_ | refine xq_blockN ?_ | refine xq_scopeN ?_)
  with_reducible repeat refine xc_seq ?_
  with_reducible refine xc_region ?_
  refine xo_asg rfl rfl rfl ?_
  with_reducible refine xo_nil ?_
  with_reducible repeat (first | refine xq_then ?_ | refine xq_blockN ?_ | refine xq_scopeN ?_)
  with_reducible repeat refine xc_seq ?_
  with_reducible refine xc_block ?_
  refine xc_loop (γ := Nat × List Int) (fun q => q.1 ≤ r.length ∧ (∀ j, j + 1 < q.1 → idAt r j < idAt r (j + 1)) ∧ (∀ i, i < q.1 → 0 ≤ idAt r i) ∧ (∀ n, n ∈ q.2 ↔ ∃ i, i < q.1 ∧ idAt r i = n) ∧ (SortedIds r → recordedF r = recF q.2 (if q.1 = 0 then -1 else idAt r (q.1 - 1)) (r.drop q.1)))
    (fun q => [(0, .slice A r.length c), (3, .int .i64 (q.1 : Int))]) (fun _ => []) (fun q => r.length - q.1) (0, [])
    ⟨Nat.zero_le _, fun j hj => absurd hj (by simp), fun j hj => absurd hj (by simp), fun n => by simp, fun _ => by simpa using hrecd⟩ ⟨rfl, rfl, trivial⟩ (List.Sublist.refl _) ?_
  rintro ⟨k, bs⟩ ⟨hk1, hsrt, h0, hbs, hrec⟩
  simp only at hk1 hsrt h0 hbs hrec ⊢
  with_reducible repeat refine xc_seq ?_
  with_reducible refine xc_region ?_
  refine xo_mv rfl rfl rfl ?_
  refine xo_mv rfl rfl rfl ?_
  refine xo_len T_ rfl rfl rfl rfl ?_
  refine xo_lss rfl rfl rfl rfl ?_
  with_reducible refine xo_nil ?_
  with_reducible repeat (first | refine xq_then ?_ | refine xq_blockN ?_ | refine xq_scopeN ?_)
  with_reducible repeat refine xc_seq ?_
  refine xc_cond rfl (fun h => ?_) (fun h => ?_)
  · have hlt : k < r.length := by have := of_decide_eq_true h; omega
    obtain ⟨ad, A2, c2, rfl, r1, hc2, hw2⟩ := rec_at hr k hlt
    have hprev : decide (0 < (k : Int)) = false ∨ (decide (0 < (k : Int)) = true ∧ 0 < (k : Int) ∧ ∃ A3 c3, RO w XNone (ad.add (((k : Int) - 1).toNat * szN 3)) (recV (r.getD (k - 1) zRec) A3 c3)) := by
      by_cases e : 0 < (k : Int)
      · exact .inr ⟨decide_eq_true e, e, rec_at' hr k hlt e⟩
      · exact .inl (decide_eq_false e)
    have hby := hk _ (getD_mem r zRec k hlt)
    have hbad : ((!bad1 r k (r.getD k zRec) && !bad2 (r.getD k zRec)) && waysF bs (r.getD k zRec).f2) = false → recordedF r = false := fun hf => by
      by_cases hs : SortedIds r
      · rw [hrec hs, drop_at r zRec k hlt, recF, bad12 rfl h0]
        rw [← Bool.and_assoc, hf, Bool.false_and]
      · exact recorded_sorted hs
    have hgood : ((!bad1 r k (r.getD k zRec) && !bad2 (r.getD k zRec)) && waysF bs (r.getD k zRec).f2) = true → SortedIds r → recordedF r = recF (insN (idAt r k) bs) (idAt r k) (r.drop (k + 1)) := fun hf hs => by
      rw [hrec hs, drop_at r zRec k hlt, recF, bad12 rfl h0]
      rw [← Bool.and_assoc, hf, Bool.true_and]
      rfl
    have hstep := fun hs : SortedIds r => way_step hs hlt hbs h0
    have hid : idAt r k = (r.getD k zRec).f0 := rfl
    generalize r.getD k zRec = x at *
    have hn2 := hw2.2.1
    with_reducible refine xc_skip ?_
    with_reducible repeat (first | refine xq_then ?_ | refine xq_blockN ?_ | refine xq_scopeN ?_)
    with_reducible repeat refine xc_seq ?_
    with_reducible refine xc_block ?_
    with_reducible repeat refine xc_seq ?_
    with_reducible refine xc_region ?_
    refine xo_mv rfl rfl rfl ?_
    refine xo_mv rfl rfl rfl ?_
    refine xo_ia T_ rfl rfl rfl rfl rfl ⟨by omega, by omega⟩ rfl ?_
    refine xo_loadRN T_ rfl rfl rfl (by assumption) rfl rfl ?_
    refine xo_alloc T_ rfl rfl rfl rfl (fun b4 => ?_)
    refine xo_store T_ rfl rfl rfl rfl (by repeat (first | exact List.Mem.head _ | apply List.Mem.tail | apply List.mem_append_right)) rfl rfl rfl rfl (by repeat (first | exact Upd.head | apply Upd.tail | apply Upd.app)) rfl ?_
    with_reducible refine xo_nil ?_
    with_reducible repeat (first | refine xq_then ?_ | refine xq_blockN ?_ | refine xq_scopeN ?_)
    with_reducible refine xc_seq ?_
    refine xc_cut (γ := Unit) (fun _ => True) (fun _ => [(0, .slice (some ad) r.length c), (3, .int .i64 (k : Int)), (4, .pointer (some ⟨b4, 0, none⟩)), (46, .bool (bad1 r k x))]) (fun _ => [(b4, true, cel (recV x A2 c2) 43)]) ?_ (fun _ _ => ?_)
    · rcases hprev with h2 | ⟨h2, h2', A3, c3, r2⟩ <;> cases h1 : !inF 0 9999 x.f0 <;> cases h3 : decide (x.f0 ≤ (r.getD (k - 1) zRec).f0) <;> cases h4 : !inF 1 4 x.f1
      all_goals
        with_reducible repeat refine xc_seq ?_
        apply xc_drawN
        · exact T_.mixed
        · rfl
        · rfl
        · rfl
        · rfl
        · apply DrawOps.cons
          · intro τ
            refine xo_fa T_ rfl rfl rfl rfl rfl ?_
            exact xo_fin rfl
          apply DrawOps.cons
          · intro τ
            refine xo_load0 T_ rfl rfl rfl (by repeat (first | exact List.Mem.head _ | apply List.Mem.tail | apply List.mem_append_right)) rfl rfl ?_
            exact xo_fin rfl
          apply DrawOps.cons
          · intro τ
            refine xo_callB (fs := []) (cs := []) rfl rfl rfl within_enters rfl (fun w1 hw1 => within_calls _ _ _ w1) ?_
            exact xo_fin rfl
          apply DrawOps.cons
          · intro τ
            refine xo_notOp rfl rfl rfl ?_
            first
              | exact xo_fin (congrArg Value.bool h1)
              | exact xo_fin rfl
          apply DrawOps.cons
          · intro τ
            refine xo_mv rfl rfl rfl ?_
            exact xo_fin rfl
          apply DrawOps.cons
          · intro τ
            first
              | refine xo_not rfl rfl ?_
              | (refine xo_mv rfl rfl rfl ?_)
            exact xo_fin rfl
          apply DrawOps.cons
          · intro τ
            first
              | refine xo_not rfl rfl ?_
              | (refine xo_gtr rfl rfl rfl rfl ?_)
            first
              | exact xo_fin (congrArg Value.bool h2)
              | exact xo_fin rfl
          apply DrawOps.cons
          · intro τ
            first
              | refine xo_not rfl rfl ?_
              | (refine xo_mv rfl rfl rfl ?_)
            exact xo_fin rfl
          apply DrawOps.cons
          · intro τ
            first
              | refine xo_not rfl rfl ?_
              | (refine xo_fa T_ rfl rfl rfl rfl rfl ?_)
            exact xo_fin rfl
          apply DrawOps.cons
          · intro τ
            first
              | refine xo_not rfl rfl ?_
              | (refine xo_load0 T_ rfl rfl rfl (by repeat (first | exact List.Mem.head _ | apply List.Mem.tail | apply List.mem_append_right)) rfl rfl ?_)
            exact xo_fin rfl
          apply DrawOps.cons
          · intro τ
            first
              | refine xo_not rfl rfl ?_
              | (refine xo_mv rfl rfl rfl ?_)
            exact xo_fin rfl
          apply DrawOps.cons
          · intro τ
            first
              | refine xo_not rfl rfl ?_
              | (refine xo_mv rfl rfl rfl ?_)
            exact xo_fin rfl
          apply DrawOps.cons
          · intro τ
            first
              | refine xo_not rfl rfl ?_
              | (refine xo_sub rfl rfl rfl (by omega) rfl ?_)
            exact xo_fin rfl
          apply DrawOps.cons
          · intro τ
            first
              | refine xo_not rfl rfl ?_
              | (refine xo_ia T_ rfl rfl rfl rfl rfl ⟨by omega, by omega⟩ rfl ?_)
            exact xo_fin rfl
          apply DrawOps.cons
          · intro τ
            first
              | refine xo_not rfl rfl ?_
              | (refine xo_faR T_ rfl rfl rfl rfl rfl ?_)
            exact xo_fin rfl
          apply DrawOps.cons
          · intro τ
            first
              | refine xo_not rfl rfl ?_
              | (refine xo_loadR0 T_ rfl rfl rfl (by first | assumption | exact RO.fld (by assumption) rfl) rfl ?_)
            exact xo_fin rfl
          apply DrawOps.cons
          · intro τ
            first
              | refine xo_not rfl rfl ?_
              | (refine xo_leq rfl rfl rfl rfl ?_)
            first
              | exact xo_fin (congrArg Value.bool h3)
              | exact xo_fin rfl
          apply DrawOps.cons
          · intro τ
            first
              | refine xo_not rfl rfl ?_
              | (first | refine xo_pickT rfl rfl rfl rfl ?_ | refine xo_pickF rfl rfl rfl rfl ?_)
            exact xo_fin rfl
          apply DrawOps.cons
          · intro τ
            first | refine xo_pickT rfl rfl rfl rfl ?_ | refine xo_pickF rfl rfl rfl rfl ?_
            exact xo_fin rfl
          apply DrawOps.cons
          · intro τ
            refine xo_mv rfl rfl rfl ?_
            exact xo_fin rfl
          apply DrawOps.cons
          · intro τ
            first
              | refine xo_not rfl rfl ?_
              | (refine xo_fa T_ rfl rfl rfl rfl rfl ?_)
            exact xo_fin rfl
          apply DrawOps.cons
          · intro τ
            first
              | refine xo_not rfl rfl ?_
              | (refine xo_load0 T_ rfl rfl rfl (by repeat (first | exact List.Mem.head _ | apply List.Mem.tail | apply List.mem_append_right)) rfl rfl ?_)
            exact xo_fin rfl
          apply DrawOps.cons
          · intro τ
            first
              | refine xo_not rfl rfl ?_
              | (refine xo_conv T_ rfl rfl rfl rfl (IntWalk.i64_in _ ⟨by omega, by omega⟩) rfl ?_)
            exact xo_fin rfl
          apply DrawOps.cons
          · intro τ
            first
              | refine xo_not rfl rfl ?_
              | (refine xo_callB (fs := []) (cs := []) rfl rfl rfl within_enters rfl (fun w1 hw1 => within_calls _ _ _ w1) ?_)
            exact xo_fin rfl
          apply DrawOps.cons
          · intro τ
            first
              | refine xo_not rfl rfl ?_
              | (refine xo_notOp rfl rfl rfl ?_)
            first
              | exact xo_fin (congrArg Value.bool h4)
              | exact xo_fin rfl
          apply DrawOps.cons
          · intro τ
            first | refine xo_pickT rfl rfl rfl rfl ?_ | refine xo_pickF rfl rfl rfl rfl ?_
            exact xo_fin rfl
          exact DrawOps.nil
        · rfl
        with_reducible repeat (first | refine xq_then ?_ | refine xq_blockN ?_ | refine xq_scopeN ?_)
        exact xq_meet _ _ _ () trivial ⟨rfl, rfl, rfl, by rw [bad1, h1, h2, h3, h4]; rfl, trivial⟩ (by repeat (first | exact List.Sublist.refl _ | apply List.Sublist.cons_cons | apply List.Sublist.cons | exact List.nil_sublist _))
    with_reducible repeat refine xc_seq ?_
    refine xc_cond rfl (fun h46 => ?_) (fun h46 => ?_)
    · with_reducible repeat refine xc_seq ?_
      with_reducible refine xc_region ?_
      refine xo_asg rfl rfl rfl ?_
      with_reducible refine xo_nil ?_
      with_reducible repeat (first | refine xq_then ?_ | refine xq_blockN ?_ | refine xq_scopeN ?_)
      with_reducible repeat refine xc_seq ?_
      with_reducible refine xc_ret ?_
      with_reducible repeat (first | refine xq_thenR ?_ | refine xq_blockR ?_ | refine xq_scopeR ?_)
      exact xq_ret1 rfl rfl fun w' hw => ⟨by rw [hbad (by rw [h46]; rfl)], hw.kx.below⟩
    with_reducible refine xc_skip ?_
    with_reducible repeat (first | refine xq_then ?_ | refine xq_blockN ?_ | refine xq_scopeN ?_)
    with_reducible refine xc_seq ?_
    refine xc_cut (γ := Unit) (fun _ => True) (fun _ => [(0, .slice (some ad) r.length c), (3, .int .i64 (k : Int)), (4, .pointer (some ⟨b4, 0, none⟩)), (67, .bool (bad2 x))]) (fun _ => [(b4, true, cel (recV x A2 c2) 43)]) ?_ (fun _ _ => ?_)
    · cases h5 : decide (x.f1 ≤ 2) <;> cases h6 : !decide ((x.f2.length : Int) = 0) <;> cases h7 : decide (2 < x.f1) <;> cases h8 : !inF 1 3 x.f2.length
      all_goals
        with_reducible repeat refine xc_seq ?_
        with_reducible refine xc_region ?_
        refine xo_fa T_ rfl rfl rfl rfl rfl ?_
        refine xo_load0 T_ rfl rfl rfl (by repeat (first | exact List.Mem.head _ | apply List.Mem.tail | apply List.mem_append_right)) rfl rfl ?_
        refine xo_leq rfl rfl rfl rfl ?_
        refine xo_as (i := 49) rfl (congrArg Value.bool h5) ?_
        refine xo_mv rfl rfl rfl ?_
        first
          | refine xo_not rfl rfl ?_
          | (refine xo_fa T_ rfl rfl rfl rfl rfl ?_)
        first
          | refine xo_not rfl rfl ?_
          | (refine xo_load0 T_ rfl rfl rfl (by repeat (first | exact List.Mem.head _ | apply List.Mem.tail | apply List.mem_append_right)) rfl rfl ?_)
        first
          | refine xo_not rfl rfl ?_
          | (refine xo_len T_ rfl rfl rfl rfl ?_)
        first
          | refine xo_not rfl rfl ?_
          | (refine xo_neq rfl rfl rfl rfl ?_)
        first | refine xo_as (i := 54) rfl (congrArg Value.bool h6) ?_ | skip
        first | refine xo_pickT rfl rfl rfl rfl ?_ | refine xo_pickF rfl rfl rfl rfl ?_
        refine xo_mv rfl rfl rfl ?_
        first
          | refine xo_not rfl rfl ?_
          | (refine xo_fa T_ rfl rfl rfl rfl rfl ?_)
        first
          | refine xo_not rfl rfl ?_
          | (refine xo_load0 T_ rfl rfl rfl (by repeat (first | exact List.Mem.head _ | apply List.Mem.tail | apply List.mem_append_right)) rfl rfl ?_)
        first
          | refine xo_not rfl rfl ?_
          | (refine xo_gtr rfl rfl rfl rfl ?_)
        first | refine xo_as (i := 59) rfl (congrArg Value.bool h7) ?_ | skip
        first
          | refine xo_not rfl rfl ?_
          | (refine xo_mv rfl rfl rfl ?_)
        first
          | refine xo_not rfl rfl ?_
          | (refine xo_fa T_ rfl rfl rfl rfl rfl ?_)
        first
          | refine xo_not rfl rfl ?_
          | (refine xo_load0 T_ rfl rfl rfl (by repeat (first | exact List.Mem.head _ | apply List.Mem.tail | apply List.mem_append_right)) rfl rfl ?_)
        first
          | refine xo_not rfl rfl ?_
          | (refine xo_len T_ rfl rfl rfl rfl ?_)
        first
          | refine xo_not rfl rfl ?_
          | (refine xo_callB (fs := []) (cs := []) rfl rfl rfl within_enters rfl (fun w1 hw1 => within_calls _ _ _ w1) ?_)
        first
          | refine xo_not rfl rfl ?_
          | (refine xo_notOp rfl rfl rfl ?_)
        first | refine xo_as (i := 65) rfl (congrArg Value.bool h8) ?_ | skip
        first
          | refine xo_not rfl rfl ?_
          | (first | refine xo_pickT rfl rfl rfl rfl ?_ | refine xo_pickF rfl rfl rfl rfl ?_)
        first | refine xo_pickT rfl rfl rfl rfl ?_ | refine xo_pickF rfl rfl rfl rfl ?_
        with_reducible refine xo_nil ?_
        with_reducible repeat (first | refine xq_then ?_ | refine xq_blockN ?_ | refine xq_scopeN ?_)
        exact xq_meet _ _ _ () trivial ⟨rfl, rfl, rfl, by rw [bad2, h5, h6, h7, h8]; rfl, trivial⟩ (by repeat (first | exact List.Sublist.refl _ | apply List.Sublist.cons_cons | apply List.Sublist.cons | exact List.nil_sublist _))
    with_reducible repeat refine xc_seq ?_
    refine xc_cond rfl (fun h67 => ?_) (fun h67 => ?_)
    · with_reducible repeat refine xc_seq ?_
      with_reducible refine xc_region ?_
      refine xo_asg rfl rfl rfl ?_
      with_reducible refine xo_nil ?_
      with_reducible repeat (first | refine xq_then ?_ | refine xq_blockN ?_ | refine xq_scopeN ?_)
      with_reducible repeat refine xc_seq ?_
      with_reducible refine xc_ret ?_
      with_reducible repeat (first | refine xq_thenR ?_ | refine xq_blockR ?_ | refine xq_scopeR ?_)
      exact xq_ret1 rfl rfl fun w' hw => ⟨by rw [hbad (by rw [h67, Bool.not_true, Bool.and_false, Bool.false_and])], hw.kx.below⟩
    rw [h46, h67] at hbad hgood
    simp only [Bool.not_false, Bool.and_self, Bool.true_and] at hbad hgood
    with_reducible refine xc_skip ?_
    with_reducible repeat (first | refine xq_then ?_ | refine xq_blockN ?_ | refine xq_scopeN ?_)
    with_reducible repeat refine xc_seq ?_
    with_reducible refine xc_region ?_
    refine xo_asg rfl rfl rfl ?_
    with_reducible refine xo_nil ?_
    with_reducible repeat (first | refine xq_then ?_ | refine xq_blockN ?_ | refine xq_scopeN ?_)
    with_reducible repeat refine xc_seq ?_
    with_reducible refine xc_block ?_
    refine xc_loop (γ := Nat) (fun i => i ≤ x.f2.length ∧ (SortedIds r → ∀ i', i' < i → (wayF bs (-1) (x.f2.getD i' []) && inF 1 4 (x.f2.getD i' []).length) = true))
      (fun i => [(0, .slice (some ad) r.length c), (3, .int .i64 (k : Int)), (4, .pointer (some ⟨b4, 0, none⟩)), (5, .int .i64 (i : Int))]) (fun _ => [(b4, true, cel (recV x A2 c2) 43)]) (fun i => x.f2.length - i) 0
      ⟨Nat.zero_le _, fun _ j hj => absurd hj (by simp)⟩ ⟨rfl, rfl, rfl, rfl, trivial⟩ (by repeat (first | exact List.Sublist.refl _ | apply List.Sublist.cons_cons | apply List.Sublist.cons | exact List.nil_sublist _)) ?_
    rintro i ⟨hi1, hways⟩
    with_reducible repeat refine xc_seq ?_
    with_reducible refine xc_region ?_
    refine xo_mv rfl rfl rfl ?_
    refine xo_fa T_ rfl rfl rfl rfl rfl ?_
    refine xo_load0 T_ rfl rfl rfl (by repeat (first | exact List.Mem.head _ | apply List.Mem.tail | apply List.mem_append_right)) rfl rfl ?_
    refine xo_len T_ rfl rfl rfl rfl ?_
    refine xo_lss rfl rfl rfl rfl ?_
    with_reducible refine xo_nil ?_
    with_reducible repeat (first | refine xq_then ?_ | refine xq_blockN ?_ | refine xq_scopeN ?_)
    with_reducible repeat refine xc_seq ?_
    refine xc_cond rfl (fun h => ?_) (fun h => ?_)
    · have hil : i < x.f2.length := by have := of_decide_eq_true h; omega
      obtain ⟨ad2, A4, c4, rfl, r3, hc3, hw3⟩ := way_at hw2 i hil
      have hwf := @waysF_false bs x.f2 i hil
      generalize hway : x.f2.getD i [] = way at *
      have hn3 := hw3.2.1
      with_reducible refine xc_skip ?_
      with_reducible repeat (first | refine xq_then ?_ | refine xq_blockN ?_ | refine xq_scopeN ?_)
      with_reducible repeat refine xc_seq ?_
      with_reducible refine xc_block ?_
      with_reducible repeat refine xc_seq ?_
      with_reducible refine xc_region ?_
      refine xo_fa T_ rfl rfl rfl rfl rfl ?_
      refine xo_load0 T_ rfl rfl rfl (by repeat (first | exact List.Mem.head _ | apply List.Mem.tail | apply List.mem_append_right)) rfl rfl ?_
      refine xo_mv rfl rfl rfl ?_
      refine xo_ia T_ rfl rfl rfl rfl rfl ⟨by omega, by omega⟩ rfl ?_
      refine xo_loadR0 T_ rfl rfl rfl (by first | assumption | exact RO.fld (by assumption) rfl) rfl ?_
      refine xo_asg rfl rfl rfl ?_
      with_reducible refine xo_nil ?_
      with_reducible repeat (first | refine xq_then ?_ | refine xq_blockN ?_ | refine xq_scopeN ?_)
      with_reducible repeat refine xc_seq ?_
      with_reducible refine xc_region ?_
      refine xo_mv rfl rfl rfl ?_
      refine xo_len T_ rfl rfl rfl rfl ?_
      refine xo_callB (fs := []) (cs := []) rfl rfl rfl within_enters rfl (fun w1 hw1 => within_calls _ _ _ w1) ?_
      refine xo_notOp rfl rfl rfl ?_
      with_reducible refine xo_nil ?_
      with_reducible repeat (first | refine xq_then ?_ | refine xq_blockN ?_ | refine xq_scopeN ?_)
      with_reducible repeat refine xc_seq ?_
      refine xc_cond rfl (fun h83 => ?_) (fun h83 => ?_)
      · with_reducible repeat refine xc_seq ?_
        with_reducible refine xc_region ?_
        refine xo_asg rfl rfl rfl ?_
        with_reducible refine xo_nil ?_
        with_reducible repeat (first | refine xq_then ?_ | refine xq_blockN ?_ | refine xq_scopeN ?_)
        with_reducible repeat refine xc_seq ?_
        with_reducible refine xc_ret ?_
        with_reducible repeat (first | refine xq_thenR ?_ | refine xq_blockR ?_ | refine xq_scopeR ?_)
        simp only [Bool.not_eq_true'] at h83
        exact xq_ret1 rfl rfl fun w' hw => ⟨by rw [hbad (hwf (by rw [h83, Bool.and_false]))], hw.kx.below⟩
      simp only [Bool.not_eq_false'] at h83
      with_reducible refine xc_skip ?_
      with_reducible repeat (first | refine xq_then ?_ | refine xq_blockN ?_ | refine xq_scopeN ?_)
      with_reducible repeat refine xc_seq ?_
      with_reducible refine xc_region ?_
      refine xo_asg rfl rfl rfl ?_
      with_reducible refine xo_nil ?_
      with_reducible repeat (first | refine xq_then ?_ | refine xq_blockN ?_ | refine xq_scopeN ?_)
      with_reducible repeat refine xc_seq ?_
      with_reducible refine xc_block ?_
      refine xc_loop (γ := Nat) (fun j => j ≤ way.length ∧ (SortedIds r → wayF bs (-1) way = wayF bs (pastAt way j) (way.drop j)))
        (fun j => [(0, .slice (some ad) r.length c), (3, .int .i64 (k : Int)), (4, .pointer (some ⟨b4, 0, none⟩)), (5, .int .i64 (i : Int)), (6, .slice A4 way.length c4), (7, .int .i64 (j : Int))]) (fun _ => [(b4, true, cel (recV x (some ad2) c2) 43)]) (fun j => way.length - j) 0
        ⟨Nat.zero_le _, fun _ => rfl⟩ ⟨rfl, rfl, rfl, rfl, rfl, rfl, trivial⟩ (by repeat (first | exact List.Sublist.refl _ | apply List.Sublist.cons_cons | apply List.Sublist.cons | exact List.nil_sublist _)) ?_
      rintro j ⟨hj1, hwj⟩
      with_reducible repeat refine xc_seq ?_
      with_reducible refine xc_region ?_
      refine xo_mv rfl rfl rfl ?_
      refine xo_mv rfl rfl rfl ?_
      refine xo_len T_ rfl rfl rfl rfl ?_
      refine xo_lss rfl rfl rfl rfl ?_
      with_reducible refine xo_nil ?_
      with_reducible repeat (first | refine xq_then ?_ | refine xq_blockN ?_ | refine xq_scopeN ?_)
      with_reducible repeat refine xc_seq ?_
      refine xc_cond rfl (fun h => ?_) (fun h => ?_)
      · have hjl : j < way.length := by have := of_decide_eq_true h; omega
        obtain ⟨ad4, rfl, r4⟩ := int_at hw3 j hjl
        have hprev : decide (0 < (j : Int)) = false ∨ (decide (0 < (j : Int)) = true ∧ 0 < (j : Int) ∧ RO w XNone (ad4.add (((j : Int) - 1).toNat * szN 0)) [.int .i64 (way.getD (j - 1) 0)]) := by
          by_cases e : 0 < (j : Int)
          · exact .inr ⟨decide_eq_true e, e, int_at' hw3 j hjl e⟩
          · exact .inl (decide_eq_false e)
        have hst : SortedIds r → wayF bs (pastAt way j) (way.drop j) = (!bad3 r x way j && wayF bs (pastAt way (j + 1)) (way.drop (j + 1))) := fun hs => by
          rw [drop_at way 0 j hjl, wayF, ← hstep hs way j (way.getD j 0), hid]
          rfl
        with_reducible refine xc_skip ?_
        with_reducible repeat (first | refine xq_then ?_ | refine xq_blockN ?_ | refine xq_scopeN ?_)
        with_reducible repeat refine xc_seq ?_
        with_reducible refine xc_block ?_
        refine xc_cut (γ := Unit) (fun _ => True) (fun _ => [(0, .slice (some ad) r.length c), (3, .int .i64 (k : Int)), (4, .pointer (some ⟨b4, 0, none⟩)), (5, .int .i64 (i : Int)), (6, .slice (some ad4) way.length c4), (7, .int .i64 (j : Int)), (121, .bool (bad3 r x way j))]) (fun _ => [(b4, true, cel (recV x (some ad2) c2) 43)]) ?_ (fun _ _ => ?_)
        · rcases hprev with h2 | ⟨h2, h2', r5⟩ <;> cases h1 : decide (x.f0 ≤ way.getD j 0) <;> cases h3 : decide (atF r (way.getD j 0) < 0) <;> cases h4 : decide (way.getD j 0 ≤ way.getD (j - 1) 0)
          all_goals
            with_reducible repeat refine xc_seq ?_
            apply xc_drawN
            · exact T_.mixed
            · rfl
            · rfl
            · rfl
            · rfl
            · apply DrawOps.cons
              · intro τ
                refine xo_mv rfl rfl rfl ?_
                exact xo_fin rfl
              apply DrawOps.cons
              · intro τ
                refine xo_mv rfl rfl rfl ?_
                exact xo_fin rfl
              apply DrawOps.cons
              · intro τ
                refine xo_ia T_ rfl rfl rfl rfl rfl ⟨by omega, by omega⟩ rfl ?_
                exact xo_fin rfl
              apply DrawOps.cons
              · intro τ
                refine xo_loadR0 T_ rfl rfl rfl (by first | assumption | exact RO.fld (by assumption) rfl) rfl ?_
                exact xo_fin rfl
              apply DrawOps.cons
              · intro τ
                refine xo_fa T_ rfl rfl rfl rfl rfl ?_
                exact xo_fin rfl
              apply DrawOps.cons
              · intro τ
                refine xo_load0 T_ rfl rfl rfl (by repeat (first | exact List.Mem.head _ | apply List.Mem.tail | apply List.mem_append_right)) rfl rfl ?_
                exact xo_fin rfl
              apply DrawOps.cons
              · intro τ
                refine xo_geq rfl rfl rfl rfl ?_
                first
                  | exact xo_fin (congrArg Value.bool h1)
                  | exact xo_fin rfl
              apply DrawOps.cons
              · intro τ
                refine xo_mv rfl rfl rfl ?_
                exact xo_fin rfl
              apply DrawOps.cons
              · intro τ
                first
                  | refine xo_not rfl rfl ?_
                  | (refine xo_mv rfl rfl rfl ?_)
                exact xo_fin rfl
              apply DrawOps.cons
              · intro τ
                first
                  | refine xo_not rfl rfl ?_
                  | (refine xo_mv rfl rfl rfl ?_)
                exact xo_fin rfl
              apply DrawOps.cons
              · intro τ
                first
                  | refine xo_not rfl rfl ?_
                  | (refine xo_mv rfl rfl rfl ?_)
                exact xo_fin rfl
              apply DrawOps.cons
              · intro τ
                first
                  | refine xo_not rfl rfl ?_
                  | (refine xo_ia T_ rfl rfl rfl rfl rfl ⟨by omega, by omega⟩ rfl ?_)
                exact xo_fin rfl
              apply DrawOps.cons
              · intro τ
                first
                  | refine xo_not rfl rfl ?_
                  | (refine xo_loadR0 T_ rfl rfl rfl (by first | assumption | exact RO.fld (by assumption) rfl) rfl ?_)
                exact xo_fin rfl
              apply DrawOps.cons
              · intro τ
                first
                  | refine xo_not rfl rfl ?_
                  | (refine xo_callB (fs := []) (cs := []) rfl rfl rfl at_enters rfl (fun w1 hw1 => at_calls _ _ _ _ w1 (Kd.C_below hr hw1.kx.below)) ?_)
                exact xo_fin rfl
              apply DrawOps.cons
              · intro τ
                first
                  | refine xo_not rfl rfl ?_
                  | (refine xo_lss rfl rfl rfl rfl ?_)
                first
                  | exact xo_fin (congrArg Value.bool h3)
                  | exact xo_fin rfl
              apply DrawOps.cons
              · intro τ
                first | refine xo_pickT rfl rfl rfl rfl ?_ | refine xo_pickF rfl rfl rfl rfl ?_
                exact xo_fin rfl
              apply DrawOps.cons
              · intro τ
                refine xo_mv rfl rfl rfl ?_
                exact xo_fin rfl
              apply DrawOps.cons
              · intro τ
                first
                  | refine xo_not rfl rfl ?_
                  | (refine xo_mv rfl rfl rfl ?_)
                exact xo_fin rfl
              apply DrawOps.cons
              · intro τ
                first
                  | refine xo_not rfl rfl ?_
                  | (refine xo_gtr rfl rfl rfl rfl ?_)
                first
                  | exact xo_fin (congrArg Value.bool h2)
                  | exact xo_fin rfl
              apply DrawOps.cons
              · intro τ
                first
                  | refine xo_not rfl rfl ?_
                  | (refine xo_mv rfl rfl rfl ?_)
                exact xo_fin rfl
              apply DrawOps.cons
              · intro τ
                first
                  | refine xo_not rfl rfl ?_
                  | (refine xo_mv rfl rfl rfl ?_)
                exact xo_fin rfl
              apply DrawOps.cons
              · intro τ
                first
                  | refine xo_not rfl rfl ?_
                  | (refine xo_mv rfl rfl rfl ?_)
                exact xo_fin rfl
              apply DrawOps.cons
              · intro τ
                first
                  | refine xo_not rfl rfl ?_
                  | (refine xo_ia T_ rfl rfl rfl rfl rfl ⟨by omega, by omega⟩ rfl ?_)
                exact xo_fin rfl
              apply DrawOps.cons
              · intro τ
                first
                  | refine xo_not rfl rfl ?_
                  | (refine xo_loadR0 T_ rfl rfl rfl (by first | assumption | exact RO.fld (by assumption) rfl) rfl ?_)
                exact xo_fin rfl
              apply DrawOps.cons
              · intro τ
                first
                  | refine xo_not rfl rfl ?_
                  | (refine xo_mv rfl rfl rfl ?_)
                exact xo_fin rfl
              apply DrawOps.cons
              · intro τ
                first
                  | refine xo_not rfl rfl ?_
                  | (refine xo_mv rfl rfl rfl ?_)
                exact xo_fin rfl
              apply DrawOps.cons
              · intro τ
                first
                  | refine xo_not rfl rfl ?_
                  | (refine xo_sub rfl rfl rfl (by omega) rfl ?_)
                exact xo_fin rfl
              apply DrawOps.cons
              · intro τ
                first
                  | refine xo_not rfl rfl ?_
                  | (refine xo_ia T_ rfl rfl rfl rfl rfl ⟨by omega, by omega⟩ rfl ?_)
                exact xo_fin rfl
              apply DrawOps.cons
              · intro τ
                first
                  | refine xo_not rfl rfl ?_
                  | (refine xo_loadR0 T_ rfl rfl rfl (by first | assumption | exact RO.fld (by assumption) rfl) rfl ?_)
                exact xo_fin rfl
              apply DrawOps.cons
              · intro τ
                first
                  | refine xo_not rfl rfl ?_
                  | (refine xo_leq rfl rfl rfl rfl ?_)
                first
                  | exact xo_fin (congrArg Value.bool h4)
                  | exact xo_fin rfl
              apply DrawOps.cons
              · intro τ
                first
                  | refine xo_not rfl rfl ?_
                  | (first | refine xo_pickT rfl rfl rfl rfl ?_ | refine xo_pickF rfl rfl rfl rfl ?_)
                exact xo_fin rfl
              apply DrawOps.cons
              · intro τ
                first | refine xo_pickT rfl rfl rfl rfl ?_ | refine xo_pickF rfl rfl rfl rfl ?_
                exact xo_fin rfl
              exact DrawOps.nil
            · rfl
            with_reducible repeat (first | refine xq_then ?_ | refine xq_blockN ?_ | refine xq_scopeN ?_)
            exact xq_meet _ _ _ () trivial ⟨rfl, rfl, rfl, rfl, rfl, rfl, by rw [bad3, h1, h2, h3, h4]; rfl, trivial⟩ (by repeat (first | exact List.Sublist.refl _ | apply List.Sublist.cons_cons | apply List.Sublist.cons | exact List.nil_sublist _))
        with_reducible repeat refine xc_seq ?_
        refine xc_cond rfl (fun hb3 => ?_) (fun hb3 => ?_)
        · with_reducible repeat refine xc_seq ?_
          with_reducible refine xc_region ?_
          refine xo_asg rfl rfl rfl ?_
          with_reducible refine xo_nil ?_
          with_reducible repeat (first | refine xq_then ?_ | refine xq_blockN ?_ | refine xq_scopeN ?_)
          with_reducible repeat refine xc_seq ?_
          with_reducible refine xc_ret ?_
          with_reducible repeat (first | refine xq_thenR ?_ | refine xq_blockR ?_ | refine xq_scopeR ?_)
          refine xq_ret1 rfl rfl fun w' hw => ⟨?_, hw.kx.below⟩
          by_cases hs : SortedIds r
          · rw [hbad (hwf (by rw [hwj hs, hst hs, hb3]; rfl))]
          · rw [recorded_sorted hs]
        with_reducible refine xc_skip ?_
        with_reducible repeat (first | refine xq_then ?_ | refine xq_blockN ?_ | refine xq_scopeN ?_)
        with_reducible repeat refine xc_seq ?_
        with_reducible refine xc_region ?_
        refine xo_mv rfl rfl rfl ?_
        refine xo_add rfl rfl rfl (by omega) rfl ?_
        refine xo_asg rfl rfl rfl ?_
        with_reducible refine xo_nil ?_
        with_reducible repeat (first | refine xq_then ?_ | refine xq_blockN ?_ | refine xq_scopeN ?_)
        exact xq_again _ _ _ _ _ (j + 1) ⟨by omega, fun hs => by rw [hwj hs, hst hs, hb3]; rfl⟩ (by omega) ⟨rfl, rfl, rfl, rfl, rfl, rfl, trivial⟩ (by repeat (first | exact List.Sublist.refl _ | apply List.Sublist.cons_cons | apply List.Sublist.cons | exact List.nil_sublist _))
      · have hge : ¬ j < way.length := by have := of_decide_eq_false h; omega
        with_reducible refine xc_exit ?_
        with_reducible repeat (first | refine xq_blockX ?_ | refine xq_thenE ?_ | refine xq_blockE rfl ?_ | refine xq_scopeE ?_)
        with_reducible repeat (first | refine xq_then ?_ | refine xq_blockN ?_ | refine xq_scopeN ?_)
        with_reducible repeat refine xc_seq ?_
        with_reducible refine xc_region ?_
        refine xo_mv rfl rfl rfl ?_
        refine xo_add rfl rfl rfl (by omega) rfl ?_
        refine xo_asg rfl rfl rfl ?_
        with_reducible refine xo_nil ?_
        with_reducible repeat (first | refine xq_then ?_ | refine xq_blockN ?_ | refine xq_scopeN ?_)
        refine xq_again _ _ _ _ _ (i + 1) ⟨by omega, fun hs i' hi' => ?_⟩ (by omega) ⟨rfl, rfl, rfl, rfl, trivial⟩ (by repeat (first | exact List.Sublist.refl _ | apply List.Sublist.cons_cons | apply List.Sublist.cons | exact List.nil_sublist _))
        by_cases e : i' = i
        · subst e
          rw [hway, h83, hwj hs, List.drop_of_length_le (by omega)]
          rfl
        · exact hways hs i' (by omega)
    · have hge : ¬ i < x.f2.length := by have := of_decide_eq_false h; omega
      simp only [bad1, Bool.or_eq_false_iff, Bool.not_eq_false', Bool.and_eq_false_iff, decide_eq_false_iff_not] at h46
      obtain ⟨⟨h46a, h46b⟩, h46c⟩ := h46
      simp only [inF, Bool.and_eq_true, decide_eq_true_eq] at h46a
      with_reducible refine xc_exit ?_
      with_reducible repeat (first | refine xq_blockX ?_ | refine xq_thenE ?_ | refine xq_blockE rfl ?_ | refine xq_scopeE ?_)
      with_reducible repeat (first | refine xq_then ?_ | refine xq_blockN ?_ | refine xq_scopeN ?_)
      with_reducible repeat refine xc_seq ?_
      with_reducible refine xc_region ?_
      refine xo_mv rfl rfl rfl ?_
      refine xo_add rfl rfl rfl (by omega) rfl ?_
      refine xo_asg rfl rfl rfl ?_
      with_reducible refine xo_nil ?_
      with_reducible repeat (first | refine xq_then ?_ | refine xq_blockN ?_ | refine xq_scopeN ?_)
      refine xq_again _ _ _ _ _ (k + 1, insN (idAt r k) bs) ⟨hlt, fun j hj => ?_, fun j hj => ?_, fun n => ?_, fun hs => ?_⟩ (by first | omega | (simp only; omega)) ⟨rfl, rfl, trivial⟩ (by repeat (first | exact List.Sublist.refl _ | apply List.Sublist.cons_cons | apply List.Sublist.cons | exact List.nil_sublist _))
      · simp only at hj
        by_cases e : j + 1 = k
        · subst e
          rw [hid]
          simp only [idAt, Nat.add_sub_cancel] at h46b ⊢
          omega
        · exact hsrt j (by omega)
      · simp only at hj
        by_cases e : j = k
        · subst e; omega
        · exact h0 j (by omega)
      · simp only
        rw [mem_insN, hbs]
        constructor
        · rintro (rfl | ⟨i, hi, rfl⟩)
          · exact ⟨k, by omega, rfl⟩
          · exact ⟨i, by omega, rfl⟩
        · rintro ⟨i, hi, rfl⟩
          by_cases e : i = k
          · subst e; exact .inl rfl
          · exact .inr ⟨i, by omega, rfl⟩
      · simp only [Nat.add_eq_zero_iff, Nat.one_ne_zero, and_false, if_false, Nat.add_sub_cancel]
        exact hgood (waysF_true fun i' hi' => hways hs i' (by omega)) hs
  · have hge : ¬ k < r.length := by have := of_decide_eq_false h; omega
    have hs : SortedIds r := fun j hj => hsrt j (by omega)
    with_reducible refine xc_exit ?_
    with_reducible repeat (first | refine xq_blockX ?_ | refine xq_thenE ?_ | refine xq_blockE rfl ?_ | refine xq_scopeE ?_)
    with_reducible repeat (first | refine xq_then ?_ | refine xq_blockN ?_ | refine xq_scopeN ?_)
    with_reducible repeat refine xc_seq ?_
    with_reducible refine xc_region ?_
    refine xo_asg rfl rfl rfl ?_
    with_reducible refine xo_nil ?_
    with_reducible repeat (first | refine xq_then ?_ | refine xq_blockN ?_ | refine xq_scopeN ?_)
    with_reducible repeat refine xc_seq ?_
    with_reducible refine xc_ret ?_
    with_reducible repeat (first | refine xq_thenR ?_ | refine xq_blockR ?_ | refine xq_scopeR ?_)
    exact xq_ret1 rfl rfl fun w' hw => ⟨by rw [hrec hs, List.drop_of_length_le (by omega)]; rfl, hw.kx.below⟩
theorem records_enters : ∀ args w, (callFunc 34 args).run Try.prog w = .ok (.enter 34 args) w := enters_of Try.func34 (by kernel_rfl) rfl
end Go.Proofs.Ytcmepdamemnbkaa
