/- ref08: Same, Great. -/
import Derived.Test.YtcmepdamemnbkaaRIn
namespace Go.Proofs.Ytcmepdamemnbkaa
open Go.RowKit Go.Proofs.YtcmepdamemnbkaaW.PrintWords
set_option linter.unusedVariables false
set_option linter.unusedSimpArgs false
theorem ne_ff (x : Int) : (!decide (x = x)) = false := by simp
theorem ne_ff_ {x : Int} : (!decide (x = x)) = false := by simp
set_option maxHeartbeats 4000000 in
theorem same_calls (A B : Option Addr) (c c' : Nat) (r : List RecT) (w : World) (hr : Kd.C recK w A r.length r) (hl : Kd.C recK w B r.length r) :
    Calls Try.prog 14 #[.slice A r.length c, .slice B r.length c'] w fun e w' => e = .returned (.bool true) ∧ Below w.heap.size w w' := by
  have hn := hr.2.1
  refine x_calls (X := XNone) Try.func14 rfl rfl rfl ?_
  with_reducible repeat refine xc_seq ?_
  with_reducible refine xc_region ?_
  refine xo_asg rfl rfl rfl ?_
  with_reducible refine xo_nil ?_
  with_reducible repeat (first | refine xq_then ?_ | refine xq_blockN ?_ | refine xq_scopeN ?_)
  with_reducible repeat refine xc_seq ?_
  with_reducible refine xc_region ?_
  refine xo_mv rfl rfl rfl ?_
  refine xo_len T_ rfl rfl rfl rfl ?_
  refine xo_mv rfl rfl rfl ?_
  refine xo_len T_ rfl rfl rfl rfl ?_
  refine xo_neq rfl rfl rfl rfl ?_
  refine xo_as (i := 11) rfl (congrArg Value.bool (ne_ff _)) ?_
  with_reducible refine xo_nil ?_
  with_reducible repeat (first | refine xq_then ?_ | refine xq_blockN ?_ | refine xq_scopeN ?_)
  with_reducible repeat refine xc_seq ?_
  refine xc_condF rfl ?_
  with_reducible refine xc_skip ?_
  with_reducible repeat (first | refine xq_then ?_ | refine xq_blockN ?_ | refine xq_scopeN ?_)
  with_reducible repeat refine xc_seq ?_
  with_reducible refine xc_region ?_
  refine xo_asg rfl rfl rfl ?_
  with_reducible refine xo_nil ?_
  with_reducible repeat (first | refine xq_then ?_ | refine xq_blockN ?_ | refine xq_scopeN ?_)
  with_reducible repeat refine xc_seq ?_
  with_reducible refine xc_block ?_
  refine xc_loop (γ := Nat) (fun k => k ≤ r.length) (fun k => [(0, .slice A r.length c), (1, .slice B r.length c'), (5, .int .i64 (k : Int))]) (fun _ => []) (fun k => r.length - k) 0
    (Nat.zero_le _) ⟨rfl, rfl, rfl, trivial⟩ (List.Sublist.refl _) ?_
  intro k hk
  with_reducible repeat refine xc_seq ?_
  with_reducible refine xc_region ?_
  refine xo_mv rfl rfl rfl ?_
  refine xo_mv rfl rfl rfl ?_
  refine xo_len T_ rfl rfl rfl rfl ?_
  refine xo_lss rfl rfl rfl rfl ?_
  with_reducible refine xo_nil ?_
  with_reducible repeat (first | refine xq_then ?_ | refine xq_blockN ?_ | refine xq_scopeN ?_)
  with_reducible repeat refine xc_seq ?_
  refine xc_cond rfl (fun h => ?_) (fun h => ?_)
  · have hlt : k < r.length := by have := of_decide_eq_true h; omega
    obtain ⟨ad, A2, c2, rfl, r1, hc1, hw1⟩ := rec_at hr k hlt
    obtain ⟨bd, A3, c3, rfl, r2, hc2, hw2⟩ := rec_at hl k hlt
    generalize r.getD k zRec = x at *
    have hn2 := hw1.2.1
    with_reducible refine xc_skip ?_
    with_reducible repeat (first | refine xq_then ?_ | refine xq_blockN ?_ | refine xq_scopeN ?_)
    with_reducible repeat refine xc_seq ?_
    with_reducible refine xc_block ?_
    with_reducible repeat refine xc_seq ?_
    apply xc_drawN
    · exact T_.mixed
    · rfl
    · rfl
    · rfl
    · rfl
    · apply DrawOps.cons
      · intro τ
        refine xo_mv rfl rfl rfl ?_
        exact xo_fin rfl
      apply DrawOps.cons
      · intro τ
        refine xo_mv rfl rfl rfl ?_
        exact xo_fin rfl
      apply DrawOps.cons
      · intro τ
        refine xo_ia T_ rfl rfl rfl rfl rfl ⟨by omega, by omega⟩ rfl ?_
        exact xo_fin rfl
      apply DrawOps.cons
      · intro τ
        refine xo_faR T_ rfl rfl rfl rfl rfl ?_
        exact xo_fin rfl
      apply DrawOps.cons
      · intro τ
        refine xo_loadR0 T_ rfl rfl rfl (by first | assumption | exact RO.fld (by assumption) rfl) rfl ?_
        exact xo_fin rfl
      apply DrawOps.cons
      · intro τ
        refine xo_mv rfl rfl rfl ?_
        exact xo_fin rfl
      apply DrawOps.cons
      · intro τ
        refine xo_mv rfl rfl rfl ?_
        exact xo_fin rfl
      apply DrawOps.cons
      · intro τ
        refine xo_ia T_ rfl rfl rfl rfl rfl ⟨by omega, by omega⟩ rfl ?_
        exact xo_fin rfl
      apply DrawOps.cons
      · intro τ
        refine xo_faR T_ rfl rfl rfl rfl rfl ?_
        exact xo_fin rfl
      apply DrawOps.cons
      · intro τ
        refine xo_loadR0 T_ rfl rfl rfl (by first | assumption | exact RO.fld (by assumption) rfl) rfl ?_
        exact xo_fin rfl
      apply DrawOps.cons
      · intro τ
        refine xo_neq rfl rfl rfl rfl ?_
        first
          | exact xo_fin (congrArg Value.bool ne_ff_)
          | exact xo_fin rfl
      apply DrawOps.cons
      · intro τ
        refine xo_mv rfl rfl rfl ?_
        exact xo_fin rfl
      apply DrawOps.cons
      · intro τ
        first
          | refine xo_not rfl rfl ?_
          | (refine xo_mv rfl rfl rfl ?_)
        exact xo_fin rfl
      apply DrawOps.cons
      · intro τ
        first
          | refine xo_not rfl rfl ?_
          | (refine xo_mv rfl rfl rfl ?_)
        exact xo_fin rfl
      apply DrawOps.cons
      · intro τ
        first
          | refine xo_not rfl rfl ?_
          | (refine xo_ia T_ rfl rfl rfl rfl rfl ⟨by omega, by omega⟩ rfl ?_)
        exact xo_fin rfl
      apply DrawOps.cons
      · intro τ
        first
          | refine xo_not rfl rfl ?_
          | (refine xo_faR T_ rfl rfl rfl rfl rfl ?_)
        exact xo_fin rfl
      apply DrawOps.cons
      · intro τ
        first
          | refine xo_not rfl rfl ?_
          | (refine xo_loadR0 T_ rfl rfl rfl (by first | assumption | exact RO.fld (by assumption) rfl) rfl ?_)
        exact xo_fin rfl
      apply DrawOps.cons
      · intro τ
        first
          | refine xo_not rfl rfl ?_
          | (refine xo_mv rfl rfl rfl ?_)
        exact xo_fin rfl
      apply DrawOps.cons
      · intro τ
        first
          | refine xo_not rfl rfl ?_
          | (refine xo_mv rfl rfl rfl ?_)
        exact xo_fin rfl
      apply DrawOps.cons
      · intro τ
        first
          | refine xo_not rfl rfl ?_
          | (refine xo_ia T_ rfl rfl rfl rfl rfl ⟨by omega, by omega⟩ rfl ?_)
        exact xo_fin rfl
      apply DrawOps.cons
      · intro τ
        first
          | refine xo_not rfl rfl ?_
          | (refine xo_faR T_ rfl rfl rfl rfl rfl ?_)
        exact xo_fin rfl
      apply DrawOps.cons
      · intro τ
        first
          | refine xo_not rfl rfl ?_
          | (refine xo_loadR0 T_ rfl rfl rfl (by first | assumption | exact RO.fld (by assumption) rfl) rfl ?_)
        exact xo_fin rfl
      apply DrawOps.cons
      · intro τ
        first
          | refine xo_not rfl rfl ?_
          | (refine xo_neq rfl rfl rfl rfl ?_)
        first
          | exact xo_fin (congrArg Value.bool ne_ff_)
          | exact xo_fin rfl
      apply DrawOps.cons
      · intro τ
        first | refine xo_pickT rfl rfl rfl rfl ?_ | refine xo_pickF rfl rfl rfl rfl ?_
        exact xo_fin rfl
      apply DrawOps.cons
      · intro τ
        refine xo_mv rfl rfl rfl ?_
        exact xo_fin rfl
      apply DrawOps.cons
      · intro τ
        first
          | refine xo_not rfl rfl ?_
          | (refine xo_mv rfl rfl rfl ?_)
        exact xo_fin rfl
      apply DrawOps.cons
      · intro τ
        first
          | refine xo_not rfl rfl ?_
          | (refine xo_mv rfl rfl rfl ?_)
        exact xo_fin rfl
      apply DrawOps.cons
      · intro τ
        first
          | refine xo_not rfl rfl ?_
          | (refine xo_ia T_ rfl rfl rfl rfl rfl ⟨by omega, by omega⟩ rfl ?_)
        exact xo_fin rfl
      apply DrawOps.cons
      · intro τ
        first
          | refine xo_not rfl rfl ?_
          | (refine xo_faR T_ rfl rfl rfl rfl rfl ?_)
        exact xo_fin rfl
      apply DrawOps.cons
      · intro τ
        first
          | refine xo_not rfl rfl ?_
          | (refine xo_loadR0 T_ rfl rfl rfl (by first | assumption | exact RO.fld (by assumption) rfl) rfl ?_)
        exact xo_fin rfl
      apply DrawOps.cons
      · intro τ
        first
          | refine xo_not rfl rfl ?_
          | (refine xo_len T_ rfl rfl rfl rfl ?_)
        exact xo_fin rfl
      apply DrawOps.cons
      · intro τ
        first
          | refine xo_not rfl rfl ?_
          | (refine xo_mv rfl rfl rfl ?_)
        exact xo_fin rfl
      apply DrawOps.cons
      · intro τ
        first
          | refine xo_not rfl rfl ?_
          | (refine xo_mv rfl rfl rfl ?_)
        exact xo_fin rfl
      apply DrawOps.cons
      · intro τ
        first
          | refine xo_not rfl rfl ?_
          | (refine xo_ia T_ rfl rfl rfl rfl rfl ⟨by omega, by omega⟩ rfl ?_)
        exact xo_fin rfl
      apply DrawOps.cons
      · intro τ
        first
          | refine xo_not rfl rfl ?_
          | (refine xo_faR T_ rfl rfl rfl rfl rfl ?_)
        exact xo_fin rfl
      apply DrawOps.cons
      · intro τ
        first
          | refine xo_not rfl rfl ?_
          | (refine xo_loadR0 T_ rfl rfl rfl (by first | assumption | exact RO.fld (by assumption) rfl) rfl ?_)
        exact xo_fin rfl
      apply DrawOps.cons
      · intro τ
        first
          | refine xo_not rfl rfl ?_
          | (refine xo_len T_ rfl rfl rfl rfl ?_)
        exact xo_fin rfl
      apply DrawOps.cons
      · intro τ
        first
          | refine xo_not rfl rfl ?_
          | (refine xo_neq rfl rfl rfl rfl ?_)
        first
          | exact xo_fin (congrArg Value.bool ne_ff_)
          | exact xo_fin rfl
      apply DrawOps.cons
      · intro τ
        first | refine xo_pickT rfl rfl rfl rfl ?_ | refine xo_pickF rfl rfl rfl rfl ?_
        exact xo_fin rfl
      exact DrawOps.nil
    · rfl
    with_reducible repeat (first | refine xq_then ?_ | refine xq_blockN ?_ | refine xq_scopeN ?_)
    with_reducible repeat refine xc_seq ?_
    refine xc_condF rfl ?_
    with_reducible refine xc_skip ?_
    with_reducible repeat (first | refine xq_then ?_ | refine xq_blockN ?_ | refine xq_scopeN ?_)
    with_reducible repeat refine xc_seq ?_
    with_reducible refine xc_region ?_
    refine xo_asg rfl rfl rfl ?_
    with_reducible refine xo_nil ?_
    with_reducible repeat (first | refine xq_then ?_ | refine xq_blockN ?_ | refine xq_scopeN ?_)
    with_reducible repeat refine xc_seq ?_
    with_reducible refine xc_block ?_
    refine xc_loop (γ := Nat) (fun j => j ≤ x.f2.length) (fun j => [(0, .slice (some ad) r.length c), (1, .slice (some bd) r.length c'), (5, .int .i64 (k : Int)), (6, .int .i64 (j : Int))]) (fun _ => []) (fun j => x.f2.length - j) 0
      (Nat.zero_le _) ⟨rfl, rfl, rfl, rfl, trivial⟩ (List.Sublist.refl _) ?_
    intro j hj
    with_reducible repeat refine xc_seq ?_
    with_reducible refine xc_region ?_
    refine xo_mv rfl rfl rfl ?_
    refine xo_mv rfl rfl rfl ?_
    refine xo_mv rfl rfl rfl ?_
    refine xo_ia T_ rfl rfl rfl rfl rfl ⟨by omega, by omega⟩ rfl ?_
    refine xo_faR T_ rfl rfl rfl rfl rfl ?_
    refine xo_loadR0 T_ rfl rfl rfl (by first | assumption | exact RO.fld (by assumption) rfl) rfl ?_
    refine xo_len T_ rfl rfl rfl rfl ?_
    refine xo_lss rfl rfl rfl rfl ?_
    with_reducible refine xo_nil ?_
    with_reducible repeat (first | refine xq_then ?_ | refine xq_blockN ?_ | refine xq_scopeN ?_)
    with_reducible repeat refine xc_seq ?_
    refine xc_cond rfl (fun h => ?_) (fun h => ?_)
    · have hjl : j < x.f2.length := by have := of_decide_eq_true h; omega
      obtain ⟨ad2, A4, c4, rfl, r3, hc3, hw3⟩ := way_at hw1 j hjl
      obtain ⟨bd2, A5, c5, rfl, r4, hc4, hw4⟩ := way_at hw2 j hjl
      with_reducible refine xc_skip ?_
      with_reducible repeat (first | refine xq_then ?_ | refine xq_blockN ?_ | refine xq_scopeN ?_)
      with_reducible repeat refine xc_seq ?_
      with_reducible refine xc_block ?_
      with_reducible repeat refine xc_seq ?_
      apply xc_drawN
      · exact T_.mixed
      · rfl
      · rfl
      · rfl
      · rfl
      · apply DrawOps.cons
        · intro τ
          refine xo_mv rfl rfl rfl ?_
          exact xo_fin rfl
        apply DrawOps.cons
        · intro τ
          refine xo_mv rfl rfl rfl ?_
          exact xo_fin rfl
        apply DrawOps.cons
        · intro τ
          refine xo_ia T_ rfl rfl rfl rfl rfl ⟨by omega, by omega⟩ rfl ?_
          exact xo_fin rfl
        apply DrawOps.cons
        · intro τ
          refine xo_faR T_ rfl rfl rfl rfl rfl ?_
          exact xo_fin rfl
        apply DrawOps.cons
        · intro τ
          refine xo_loadR0 T_ rfl rfl rfl (by first | assumption | exact RO.fld (by assumption) rfl) rfl ?_
          exact xo_fin rfl
        apply DrawOps.cons
        · intro τ
          refine xo_mv rfl rfl rfl ?_
          exact xo_fin rfl
        apply DrawOps.cons
        · intro τ
          refine xo_ia T_ rfl rfl rfl rfl rfl ⟨by omega, by omega⟩ rfl ?_
          exact xo_fin rfl
        apply DrawOps.cons
        · intro τ
          refine xo_loadR0 T_ rfl rfl rfl (by first | assumption | exact RO.fld (by assumption) rfl) rfl ?_
          exact xo_fin rfl
        apply DrawOps.cons
        · intro τ
          refine xo_mv rfl rfl rfl ?_
          exact xo_fin rfl
        apply DrawOps.cons
        · intro τ
          refine xo_mv rfl rfl rfl ?_
          exact xo_fin rfl
        apply DrawOps.cons
        · intro τ
          refine xo_ia T_ rfl rfl rfl rfl rfl ⟨by omega, by omega⟩ rfl ?_
          exact xo_fin rfl
        apply DrawOps.cons
        · intro τ
          refine xo_faR T_ rfl rfl rfl rfl rfl ?_
          exact xo_fin rfl
        apply DrawOps.cons
        · intro τ
          refine xo_loadR0 T_ rfl rfl rfl (by first | assumption | exact RO.fld (by assumption) rfl) rfl ?_
          exact xo_fin rfl
        apply DrawOps.cons
        · intro τ
          refine xo_mv rfl rfl rfl ?_
          exact xo_fin rfl
        apply DrawOps.cons
        · intro τ
          refine xo_ia T_ rfl rfl rfl rfl rfl ⟨by omega, by omega⟩ rfl ?_
          exact xo_fin rfl
        apply DrawOps.cons
        · intro τ
          refine xo_loadR0 T_ rfl rfl rfl (by first | assumption | exact RO.fld (by assumption) rfl) rfl ?_
          exact xo_fin rfl
        apply DrawOps.cons
        · intro τ
          refine xo_callB (fs := []) (cs := []) rfl rfl rfl sameInts_enters rfl (fun w1 hw1 => sameInts_calls _ _ _ _ _ w1 (Kd.C_below hw3 hw1.kx.below) (Kd.C_below hw4 hw1.kx.below)) ?_
          exact xo_fin rfl
        apply DrawOps.cons
        · intro τ
          refine xo_notOp rfl rfl rfl ?_
          exact xo_fin rfl
        exact DrawOps.nil
      · rfl
      with_reducible repeat (first | refine xq_then ?_ | refine xq_blockN ?_ | refine xq_scopeN ?_)
      with_reducible repeat refine xc_seq ?_
      refine xc_condF rfl ?_
      with_reducible refine xc_skip ?_
      with_reducible repeat (first | refine xq_then ?_ | refine xq_blockN ?_ | refine xq_scopeN ?_)
      with_reducible repeat refine xc_seq ?_
      with_reducible refine xc_region ?_
      refine xo_mv rfl rfl rfl ?_
      refine xo_add rfl rfl rfl (by omega) rfl ?_
      refine xo_asg rfl rfl rfl ?_
      with_reducible refine xo_nil ?_
      with_reducible repeat (first | refine xq_then ?_ | refine xq_blockN ?_ | refine xq_scopeN ?_)
      exact xq_again _ _ _ _ _ (j + 1) (by omega) (by omega) ⟨rfl, rfl, rfl, rfl, trivial⟩ (List.Sublist.refl _)
    · with_reducible refine xc_exit ?_
      with_reducible repeat (first | refine xq_blockX ?_ | refine xq_thenE ?_ | refine xq_blockE rfl ?_ | refine xq_scopeE ?_)
      with_reducible repeat (first | refine xq_then ?_ | refine xq_blockN ?_ | refine xq_scopeN ?_)
      with_reducible repeat refine xc_seq ?_
      with_reducible refine xc_region ?_
      refine xo_mv rfl rfl rfl ?_
      refine xo_add rfl rfl rfl (by omega) rfl ?_
      refine xo_asg rfl rfl rfl ?_
      with_reducible refine xo_nil ?_
      with_reducible repeat (first | refine xq_then ?_ | refine xq_blockN ?_ | refine xq_scopeN ?_)
      exact xq_again _ _ _ _ _ (k + 1) (by omega) (by omega) ⟨rfl, rfl, rfl, trivial⟩ (List.Sublist.refl _)
  · with_reducible refine xc_exit ?_
    with_reducible repeat (first | refine xq_blockX ?_ | refine xq_thenE ?_ | refine xq_blockE rfl ?_ | refine xq_scopeE ?_)
    with_reducible repeat (first | refine xq_then ?_ | refine xq_blockN ?_ | refine xq_scopeN ?_)
    with_reducible repeat refine xc_seq ?_
    with_reducible refine xc_region ?_
    refine xo_asg rfl rfl rfl ?_
    with_reducible refine xo_nil ?_
    with_reducible repeat (first | refine xq_then ?_ | refine xq_blockN ?_ | refine xq_scopeN ?_)
    with_reducible repeat refine xc_seq ?_
    with_reducible refine xc_ret ?_
    with_reducible repeat (first | refine xq_thenR ?_ | refine xq_blockR ?_ | refine xq_scopeR ?_)
    exact xq_ret1 rfl rfl fun w' hw => ⟨rfl, hw.kx.below⟩
theorem same_enters : ∀ args w, (callFunc 14 args).run Try.prog w = .ok (.enter 14 args) w := enters_of Try.func14 (by kernel_rfl) rfl
end Go.Proofs.Ytcmepdamemnbkaa
