/- ref08.Check answers what trust.Check answers. / ref08.Gone. / ref08.Hold: plain part. / ref08.Hold: the walk. / ref08.ids, Holds, open. / ref08.Holds, open. / ref08.Takes. / SX: append of a whole row. No program in sight. -/
import Derived.Test.YtcmepdamemnbkaaPkLawTrustRests4
import Derived.Deep.Upon
namespace Go.Proofs.Ytcmepdamemnbkaa
open Go.RowKit Go.Proofs.YtcmepdamemnbkaaW.PrintWords
set_option linter.unusedVariables false
set_option linter.unusedSimpArgs false
theorem lettersF_len {r : List RecT} : ∀ (l : List LetT) (last i : Int), lettersF r last i l = true → l = [] ∨ i + (l.length : Int) ≤ 20
  | [], _, _, _ => .inl rfl
  | x :: l, last, i, h => by
    simp only [lettersF, Bool.and_eq_true, Bool.not_eq_true', decide_eq_false_iff_not] at h
    obtain ⟨⟨_, h1⟩, h2⟩ := h
    rcases lettersF_len l _ _ h2 with rfl | h3
    · right; simp; omega
    · right; simp; omega
def pastL (l : List LetT) (k : Nat) : Int := if k = 0 then -1 else (l.getD (k - 1) zLet).f0
def badL (r : List RecT) (l : List LetT) (k : Nat) (x : LetT) : Bool := !inF 0 9999 x.f0 || (decide (0 < (k : Int)) && decide (x.f0 ≤ (l.getD (k - 1) zLet).f0)) || !inF 0 100000 x.f1 || decide (atF r x.f2 < 0) || !inF 1 2 x.f3
theorem split6 (c1 c2 c3 c4 c5 c6 : Bool) : (c1 = true ∧ (c1 || (c2 && c3) || c4 || c5 || c6) = true) ∨ (c1 = false ∧ c2 = true ∧ c3 = true ∧ (c1 || (c2 && c3) || c4 || c5 || c6) = true)
    ∨ (c1 = false ∧ c2 = true ∧ c3 = false ∧ c4 = true ∧ (c1 || (c2 && c3) || c4 || c5 || c6) = true) ∨ (c1 = false ∧ c2 = true ∧ c3 = false ∧ c4 = false ∧ c5 = true ∧ (c1 || (c2 && c3) || c4 || c5 || c6) = true)
    ∨ (c1 = false ∧ c2 = true ∧ c3 = false ∧ c4 = false ∧ c5 = false ∧ c6 = true ∧ (c1 || (c2 && c3) || c4 || c5 || c6) = true) ∨ (c1 = false ∧ c2 = true ∧ c3 = false ∧ c4 = false ∧ c5 = false ∧ c6 = false ∧ (c1 || (c2 && c3) || c4 || c5 || c6) = false)
    ∨ (c1 = false ∧ c2 = false ∧ c4 = true ∧ (c1 || (c2 && c3) || c4 || c5 || c6) = true) ∨ (c1 = false ∧ c2 = false ∧ c4 = false ∧ c5 = true ∧ (c1 || (c2 && c3) || c4 || c5 || c6) = true)
    ∨ (c1 = false ∧ c2 = false ∧ c4 = false ∧ c5 = false ∧ c6 = true ∧ (c1 || (c2 && c3) || c4 || c5 || c6) = true) ∨ (c1 = false ∧ c2 = false ∧ c4 = false ∧ c5 = false ∧ c6 = false ∧ (c1 || (c2 && c3) || c4 || c5 || c6) = false) := by
  cases c1 <;> cases c2 <;> cases c3 <;> cases c4 <;> cases c5 <;> cases c6 <;> simp
theorem let_at' {w : World} {ad : Addr} {l : List LetT} (h : Kd.C letK w (some ad) l.length l) (k : Nat) (hk : k < l.length) (h0 : 0 < (k : Int)) :
    RO w XNone (ad.add (((k : Int) - 1).toNat * szN 4)) (letV (l.getD (k - 1) zLet)) := by
  obtain ⟨ad2, e, h1⟩ := let_at h (k - 1) (by omega)
  cases e
  rw [show ((k : Int) - 1).toNat = ((k - 1 : Nat) : Int).toNat by omega]
  exact h1
theorem badL_step {r : List RecT} {l : List LetT} {k : Nat} {x : LetT} (hk : k < 20) (h0 : ∀ i, i < k → 0 ≤ (l.getD i zLet).f0) :
    (inF (pastL l k + 1) 9999 x.f0 && inF 0 100000 x.f1 && knownF r x.f2 && inF 1 2 x.f3 && !decide (20 ≤ (k : Int))) = !badL r l k x := by
  have h1 : inF (pastL l k + 1) 9999 x.f0 = (inF 0 9999 x.f0 && !(decide (0 < (k : Int)) && decide (x.f0 ≤ (l.getD (k - 1) zLet).f0))) := by
    by_cases hk : k = 0
    · subst hk; simp [inF, pastL]
    · have := h0 (k - 1) (by omega)
      have e0 : decide (0 < (k : Int)) = true := decide_eq_true (by omega)
      rw [pastL, if_neg hk, e0, Bool.true_and]
      exact inF_step _ _ this
  have h2 : decide (20 ≤ (k : Int)) = false := decide_eq_false (by omega)
  rw [h1, h2, badL, atF_neg]
  cases inF 0 9999 x.f0 <;> cases (decide (0 < (k : Int)) && decide (x.f0 ≤ (l.getD (k - 1) zLet).f0)) <;> cases inF 0 100000 x.f1 <;> cases knownF r x.f2 <;> cases inF 1 2 x.f3 <;> rfl
set_option maxHeartbeats 16000000 in
theorem refCheck_calls (A B : Option Addr) (c c' : Nat) (r : List RecT) (l : List LetT) (w : World) (hr : Kd.C recK w A r.length r) (hl : Kd.C letK w B l.length l) (hk : Bytes r) (hkl : BytesL l) :
    Calls Try.prog 12 #[.slice A r.length c, .slice B l.length c'] w fun e w' => e = .returned (.int .i64 (checkF r l)) ∧ Below w.heap.size w w' := by
  have hn := hl.2.1
  refine x_calls (X := XNone) Try.func12 rfl rfl rfl ?_
  with_reducible repeat refine xc_seq ?_
  with_reducible refine xc_region ?_
  refine xo_asg rfl rfl rfl ?_
  with_reducible refine xo_nil ?_
  with_reducible repeat (first | refine xq_then ?_ | refine xq_blockN ?_ | refine xq_scopeN ?_)
  with_reducible repeat refine xc_seq ?_
  with_reducible refine xc_region ?_
  refine xo_mv rfl rfl rfl ?_
  refine xo_callB (fs := []) (cs := []) rfl rfl rfl records_enters rfl (fun w1 hw1 => records_calls A c r w1 (Kd.C_below hr hw1.kx.below) hk) ?_
  refine xo_notOp rfl rfl rfl ?_
  with_reducible refine xo_nil ?_
  with_reducible repeat (first | refine xq_then ?_ | refine xq_blockN ?_ | refine xq_scopeN ?_)
  with_reducible repeat refine xc_seq ?_
  refine xc_cond rfl (fun hrec => ?_) (fun hrec => ?_)
  · with_reducible repeat refine xc_seq ?_
    with_reducible refine xc_region ?_
    refine xo_asg rfl rfl rfl ?_
    with_reducible refine xo_nil ?_
    with_reducible repeat (first | refine xq_then ?_ | refine xq_blockN ?_ | refine xq_scopeN ?_)
    with_reducible repeat refine xc_seq ?_
    with_reducible refine xc_ret ?_
    with_reducible repeat (first | refine xq_thenR ?_ | refine xq_blockR ?_ | refine xq_scopeR ?_)
    simp only [Bool.not_eq_true'] at hrec
    exact xq_ret1 rfl rfl fun w' hw => ⟨by rw [checkF, hrec]; rfl, hw.kx.below⟩
  simp only [Bool.not_eq_false'] at hrec
  with_reducible refine xc_skip ?_
  with_reducible repeat (first | refine xq_then ?_ | refine xq_blockN ?_ | refine xq_scopeN ?_)
  with_reducible repeat refine xc_seq ?_
  with_reducible refine xc_region ?_
  refine xo_mv rfl rfl rfl ?_
  refine xo_len T_ rfl rfl rfl rfl ?_
  refine xo_gtr rfl rfl rfl rfl ?_
  with_reducible refine xo_nil ?_
  with_reducible repeat (first | refine xq_then ?_ | refine xq_blockN ?_ | refine xq_scopeN ?_)
  with_reducible repeat refine xc_seq ?_
  refine xc_cond rfl (fun h20 => ?_) (fun h20 => ?_)
  · with_reducible repeat refine xc_seq ?_
    with_reducible refine xc_region ?_
    refine xo_asg rfl rfl rfl ?_
    with_reducible refine xo_nil ?_
    with_reducible repeat (first | refine xq_then ?_ | refine xq_blockN ?_ | refine xq_scopeN ?_)
    with_reducible repeat refine xc_seq ?_
    with_reducible refine xc_ret ?_
    with_reducible repeat (first | refine xq_thenR ?_ | refine xq_blockR ?_ | refine xq_scopeR ?_)
    have h20 := of_decide_eq_true h20
    refine xq_ret1 rfl rfl fun w' hw => ⟨?_, hw.kx.below⟩
    have : lettersF r (-1) 0 l = false := by
      cases h1 : lettersF r (-1) 0 l with
      | false => rfl
      | true =>
        rcases lettersF_len l _ _ h1 with rfl | h2
        · simp at h20
        · omega
    rw [checkF, hrec, this]
    rfl
  have h20 := of_decide_eq_false h20
  with_reducible refine xc_skip ?_
  with_reducible repeat (first | refine xq_then ?_ | refine xq_blockN ?_ | refine xq_scopeN ?_)
  with_reducible repeat refine xc_seq ?_
  with_reducible refine xc_region ?_
  refine xo_asg rfl rfl rfl ?_
  with_reducible refine xo_nil ?_
  with_reducible repeat (first | refine xq_then ?_ | refine xq_blockN ?_ | refine xq_scopeN ?_)
  with_reducible repeat refine xc_seq ?_
  with_reducible refine xc_block ?_
  refine xc_loop (γ := Nat) (fun k => k ≤ l.length ∧ (∀ i, i < k → 0 ≤ (l.getD i zLet).f0) ∧ lettersF r (-1) 0 l = lettersF r (pastL l k) (k : Int) (l.drop k)) (fun k => [(0, .slice A r.length c), (1, .slice B l.length c'), (5, .int .i64 (k : Int))]) (fun _ => []) (fun k => l.length - k) 0
    ⟨Nat.zero_le _, fun j hj => absurd hj (by simp), rfl⟩ ⟨rfl, rfl, rfl, trivial⟩ (List.Sublist.refl _) ?_
  rintro k ⟨hk1, h0, hlet⟩
  with_reducible repeat refine xc_seq ?_
  with_reducible refine xc_region ?_
  refine xo_mv rfl rfl rfl ?_
  refine xo_mv rfl rfl rfl ?_
  refine xo_len T_ rfl rfl rfl rfl ?_
  refine xo_lss rfl rfl rfl rfl ?_
  with_reducible refine xo_nil ?_
  with_reducible repeat (first | refine xq_then ?_ | refine xq_blockN ?_ | refine xq_scopeN ?_)
  with_reducible repeat refine xc_seq ?_
  refine xc_cond rfl (fun h => ?_) (fun h => ?_)
  · have hlt : k < l.length := by have := of_decide_eq_true h; omega
    obtain ⟨ad, rfl, r1⟩ := let_at hl k hlt
    have hby := hkl _ (getD_mem l zLet k hlt)
    have hprev : decide (0 < (k : Int)) = true → 0 < (k : Int) ∧ RO w XNone (ad.add (((k : Int) - 1).toNat * szN 4)) (letV (l.getD (k - 1) zLet)) := fun h => ⟨of_decide_eq_true h, let_at' hl k hlt (of_decide_eq_true h)⟩
    rw [drop_at l zLet k hlt, lettersF, badL_step (by omega) h0] at hlet
    have hp1 : pastL l (k + 1) = (l.getD k zLet).f0 := by simp [pastL]
    have hxid : (l.getD k zLet).f0 = (l.getD k zLet).f0 := rfl
    generalize hx : l.getD k zLet = x at *
    with_reducible refine xc_skip ?_
    with_reducible repeat (first | refine xq_then ?_ | refine xq_blockN ?_ | refine xq_scopeN ?_)
    with_reducible repeat refine xc_seq ?_
    with_reducible refine xc_block ?_
    with_reducible repeat refine xc_seq ?_
    with_reducible refine xc_region ?_
    refine xo_mv rfl rfl rfl ?_
    refine xo_mv rfl rfl rfl ?_
    refine xo_ia T_ rfl rfl rfl rfl rfl ⟨by omega, by omega⟩ rfl ?_
    refine xo_loadRN T_ rfl rfl rfl (by assumption) rfl rfl ?_
    refine xo_alloc T_ rfl rfl rfl rfl (fun b6 => ?_)
    refine xo_store T_ rfl rfl rfl rfl (by repeat (first | exact List.Mem.head _ | apply List.Mem.tail | apply List.mem_append_right)) rfl rfl rfl rfl (by repeat (first | exact Upd.head | apply Upd.tail | apply Upd.app)) rfl ?_
    with_reducible refine xo_nil ?_
    with_reducible repeat (first | refine xq_then ?_ | refine xq_blockN ?_ | refine xq_scopeN ?_)
    refine xc_cut (γ := Unit) (fun _ => True) (fun _ => [(0, .slice A r.length c), (1, .slice (some ad) l.length c'), (5, .int .i64 (k : Int)), (61, .bool (badL r l k x))]) (fun _ => []) ?_ (fun _ _ => ?_)
    · rcases split6 (!inF 0 9999 x.f0) (decide (0 < (k : Int))) (decide (x.f0 ≤ (l.getD (k - 1) zLet).f0)) (!inF 0 100000 x.f1) (decide (atF r x.f2 < 0)) (!inF 1 2 x.f3) with
        ⟨h1, hB⟩ | ⟨h1, h2, h3, hB⟩ | ⟨h1, h2, h3, h4, hB⟩ | ⟨h1, h2, h3, h4, h5, hB⟩ | ⟨h1, h2, h3, h4, h5, h6, hB⟩ | ⟨h1, h2, h3, h4, h5, h6, hB⟩ | ⟨h1, h2, h4, hB⟩ | ⟨h1, h2, h4, h5, hB⟩ | ⟨h1, h2, h4, h5, h6, hB⟩ | ⟨h1, h2, h4, h5, h6, hB⟩
      all_goals
        try (have q := hprev h2; obtain ⟨h2', r2⟩ := q)
        with_reducible repeat refine xc_seq ?_
        apply xc_drawN
        · exact T_.mixed
        · rfl
        · rfl
        · rfl
        · rfl
        · apply DrawOps.cons
          · intro τ
            refine xo_fa T_ rfl rfl rfl rfl rfl ?_
            exact xo_fin rfl
          apply DrawOps.cons
          · intro τ
            refine xo_load0 T_ rfl rfl rfl (by repeat (first | exact List.Mem.head _ | apply List.Mem.tail | apply List.mem_append_right)) rfl rfl ?_
            exact xo_fin rfl
          apply DrawOps.cons
          · intro τ
            refine xo_callB (fs := []) (cs := []) rfl rfl rfl within_enters rfl (fun w1 hw1 => within_calls _ _ _ w1) ?_
            exact xo_fin rfl
          apply DrawOps.cons
          · intro τ
            refine xo_notOp rfl rfl rfl ?_
            first
              | exact xo_fin (congrArg Value.bool h1)
              | exact xo_fin rfl
          apply DrawOps.cons
          · intro τ
            refine xo_mv rfl rfl rfl ?_
            exact xo_fin rfl
          apply DrawOps.cons
          · intro τ
            first
              | refine xo_not rfl rfl ?_
              | (refine xo_mv rfl rfl rfl ?_)
            exact xo_fin rfl
          apply DrawOps.cons
          · intro τ
            first
              | refine xo_not rfl rfl ?_
              | (refine xo_gtr rfl rfl rfl rfl ?_)
            first
              | exact xo_fin (congrArg Value.bool h2)
              | exact xo_fin rfl
          apply DrawOps.cons
          · intro τ
            first
              | refine xo_not rfl rfl ?_
              | (refine xo_mv rfl rfl rfl ?_)
            exact xo_fin rfl
          apply DrawOps.cons
          · intro τ
            first
              | refine xo_not rfl rfl ?_
              | (refine xo_fa T_ rfl rfl rfl rfl rfl ?_)
            exact xo_fin rfl
          apply DrawOps.cons
          · intro τ
            first
              | refine xo_not rfl rfl ?_
              | (refine xo_load0 T_ rfl rfl rfl (by repeat (first | exact List.Mem.head _ | apply List.Mem.tail | apply List.mem_append_right)) rfl rfl ?_)
            exact xo_fin rfl
          apply DrawOps.cons
          · intro τ
            first
              | refine xo_not rfl rfl ?_
              | (refine xo_mv rfl rfl rfl ?_)
            exact xo_fin rfl
          apply DrawOps.cons
          · intro τ
            first
              | refine xo_not rfl rfl ?_
              | (refine xo_mv rfl rfl rfl ?_)
            exact xo_fin rfl
          apply DrawOps.cons
          · intro τ
            first
              | refine xo_not rfl rfl ?_
              | (refine xo_sub rfl rfl rfl (by omega) rfl ?_)
            exact xo_fin rfl
          apply DrawOps.cons
          · intro τ
            first
              | refine xo_not rfl rfl ?_
              | (refine xo_ia T_ rfl rfl rfl rfl rfl ⟨by omega, by omega⟩ rfl ?_)
            exact xo_fin rfl
          apply DrawOps.cons
          · intro τ
            first
              | refine xo_not rfl rfl ?_
              | (refine xo_faR T_ rfl rfl rfl rfl rfl ?_)
            exact xo_fin rfl
          apply DrawOps.cons
          · intro τ
            first
              | refine xo_not rfl rfl ?_
              | (refine xo_loadR0 T_ rfl rfl rfl (by first | assumption | exact RO.fld (by assumption) rfl) rfl ?_)
            exact xo_fin rfl
          apply DrawOps.cons
          · intro τ
            first
              | refine xo_not rfl rfl ?_
              | (refine xo_leq rfl rfl rfl rfl ?_)
            first
              | exact xo_fin (congrArg Value.bool h3)
              | exact xo_fin rfl
          apply DrawOps.cons
          · intro τ
            first
              | refine xo_not rfl rfl ?_
              | (first | refine xo_pickT rfl rfl rfl rfl ?_ | refine xo_pickF rfl rfl rfl rfl ?_)
            exact xo_fin rfl
          apply DrawOps.cons
          · intro τ
            first | refine xo_pickT rfl rfl rfl rfl ?_ | refine xo_pickF rfl rfl rfl rfl ?_
            exact xo_fin rfl
          apply DrawOps.cons
          · intro τ
            refine xo_mv rfl rfl rfl ?_
            exact xo_fin rfl
          apply DrawOps.cons
          · intro τ
            first
              | refine xo_not rfl rfl ?_
              | (refine xo_fa T_ rfl rfl rfl rfl rfl ?_)
            exact xo_fin rfl
          apply DrawOps.cons
          · intro τ
            first
              | refine xo_not rfl rfl ?_
              | (refine xo_load0 T_ rfl rfl rfl (by repeat (first | exact List.Mem.head _ | apply List.Mem.tail | apply List.mem_append_right)) rfl rfl ?_)
            exact xo_fin rfl
          apply DrawOps.cons
          · intro τ
            first
              | refine xo_not rfl rfl ?_
              | (refine xo_callB (fs := []) (cs := []) rfl rfl rfl within_enters rfl (fun w1 hw1 => within_calls _ _ _ w1) ?_)
            exact xo_fin rfl
          apply DrawOps.cons
          · intro τ
            first
              | refine xo_not rfl rfl ?_
              | (refine xo_notOp rfl rfl rfl ?_)
            first
              | exact xo_fin (congrArg Value.bool h4)
              | exact xo_fin rfl
          apply DrawOps.cons
          · intro τ
            first | refine xo_pickT rfl rfl rfl rfl ?_ | refine xo_pickF rfl rfl rfl rfl ?_
            exact xo_fin rfl
          apply DrawOps.cons
          · intro τ
            refine xo_mv rfl rfl rfl ?_
            exact xo_fin rfl
          apply DrawOps.cons
          · intro τ
            first
              | refine xo_not rfl rfl ?_
              | (refine xo_mv rfl rfl rfl ?_)
            exact xo_fin rfl
          apply DrawOps.cons
          · intro τ
            first
              | refine xo_not rfl rfl ?_
              | (refine xo_fa T_ rfl rfl rfl rfl rfl ?_)
            exact xo_fin rfl
          apply DrawOps.cons
          · intro τ
            first
              | refine xo_not rfl rfl ?_
              | (refine xo_load0 T_ rfl rfl rfl (by repeat (first | exact List.Mem.head _ | apply List.Mem.tail | apply List.mem_append_right)) rfl rfl ?_)
            exact xo_fin rfl
          apply DrawOps.cons
          · intro τ
            first
              | refine xo_not rfl rfl ?_
              | (refine xo_callB (fs := []) (cs := []) rfl rfl rfl at_enters rfl (fun w1 hw1 => at_calls _ _ _ _ w1 (Kd.C_below hr hw1.kx.below)) ?_)
            exact xo_fin rfl
          apply DrawOps.cons
          · intro τ
            first
              | refine xo_not rfl rfl ?_
              | (refine xo_lss rfl rfl rfl rfl ?_)
            first
              | exact xo_fin (congrArg Value.bool h5)
              | exact xo_fin rfl
          apply DrawOps.cons
          · intro τ
            first | refine xo_pickT rfl rfl rfl rfl ?_ | refine xo_pickF rfl rfl rfl rfl ?_
            exact xo_fin rfl
          apply DrawOps.cons
          · intro τ
            refine xo_mv rfl rfl rfl ?_
            exact xo_fin rfl
          apply DrawOps.cons
          · intro τ
            first
              | refine xo_not rfl rfl ?_
              | (refine xo_fa T_ rfl rfl rfl rfl rfl ?_)
            exact xo_fin rfl
          apply DrawOps.cons
          · intro τ
            first
              | refine xo_not rfl rfl ?_
              | (refine xo_load0 T_ rfl rfl rfl (by repeat (first | exact List.Mem.head _ | apply List.Mem.tail | apply List.mem_append_right)) rfl rfl ?_)
            exact xo_fin rfl
          apply DrawOps.cons
          · intro τ
            first
              | refine xo_not rfl rfl ?_
              | (refine xo_conv T_ rfl rfl rfl rfl (IntWalk.i64_in _ ⟨by omega, by omega⟩) rfl ?_)
            exact xo_fin rfl
          apply DrawOps.cons
          · intro τ
            first
              | refine xo_not rfl rfl ?_
              | (refine xo_callB (fs := []) (cs := []) rfl rfl rfl within_enters rfl (fun w1 hw1 => within_calls _ _ _ w1) ?_)
            exact xo_fin rfl
          apply DrawOps.cons
          · intro τ
            first
              | refine xo_not rfl rfl ?_
              | (refine xo_notOp rfl rfl rfl ?_)
            first
              | exact xo_fin (congrArg Value.bool h6)
              | exact xo_fin rfl
          apply DrawOps.cons
          · intro τ
            first | refine xo_pickT rfl rfl rfl rfl ?_ | refine xo_pickF rfl rfl rfl rfl ?_
            exact xo_fin rfl
          exact DrawOps.nil
        · rfl
        with_reducible repeat (first | refine xq_then ?_ | refine xq_blockN ?_ | refine xq_scopeN ?_)
        exact xq_meet _ _ _ () trivial ⟨rfl, rfl, rfl, by rw [badL, hB]; rfl, trivial⟩ (by repeat (first | exact List.Sublist.refl _ | apply List.Sublist.cons_cons | apply List.Sublist.cons | exact List.nil_sublist _))
    with_reducible repeat refine xc_seq ?_
    refine xc_cond rfl (fun hb => ?_) (fun hb => ?_)
    · with_reducible repeat refine xc_seq ?_
      with_reducible refine xc_region ?_
      refine xo_asg rfl rfl rfl ?_
      with_reducible refine xo_nil ?_
      with_reducible repeat (first | refine xq_then ?_ | refine xq_blockN ?_ | refine xq_scopeN ?_)
      with_reducible repeat refine xc_seq ?_
      with_reducible refine xc_ret ?_
      with_reducible repeat (first | refine xq_thenR ?_ | refine xq_blockR ?_ | refine xq_scopeR ?_)
      exact xq_ret1 rfl rfl fun w' hw => ⟨by rw [checkF, hrec, hlet, hb]; rfl, hw.kx.below⟩
    with_reducible refine xc_skip ?_
    with_reducible repeat (first | refine xq_then ?_ | refine xq_blockN ?_ | refine xq_scopeN ?_)
    with_reducible repeat refine xc_seq ?_
    with_reducible refine xc_region ?_
    refine xo_mv rfl rfl rfl ?_
    refine xo_add rfl rfl rfl (by omega) rfl ?_
    refine xo_asg rfl rfl rfl ?_
    with_reducible refine xo_nil ?_
    with_reducible repeat (first | refine xq_then ?_ | refine xq_blockN ?_ | refine xq_scopeN ?_)
    refine xq_again _ _ _ _ _ (k + 1) ⟨by omega, fun i hi => ?_, ?_⟩ (by omega) ⟨rfl, rfl, rfl, trivial⟩ (List.Sublist.refl _)
    · by_cases e : i = k
      · subst e
        rw [hx]
        simp only [badL, Bool.or_eq_false_iff, Bool.not_eq_false', inF, Bool.and_eq_true, decide_eq_true_eq] at hb
        exact hb.1.1.1.1.1
      · exact h0 i (by omega)
    · rw [hlet, hb, hp1]; simp
  · have hge : ¬ k < l.length := by have := of_decide_eq_false h; omega
    with_reducible refine xc_exit ?_
    with_reducible repeat (first | refine xq_blockX ?_ | refine xq_thenE ?_ | refine xq_blockE rfl ?_ | refine xq_scopeE ?_)
    with_reducible repeat (first | refine xq_then ?_ | refine xq_blockN ?_ | refine xq_scopeN ?_)
    with_reducible repeat refine xc_seq ?_
    with_reducible refine xc_region ?_
    refine xo_asg rfl rfl rfl ?_
    with_reducible refine xo_nil ?_
    with_reducible repeat (first | refine xq_then ?_ | refine xq_blockN ?_ | refine xq_scopeN ?_)
    with_reducible repeat refine xc_seq ?_
    with_reducible refine xc_ret ?_
    with_reducible repeat (first | refine xq_thenR ?_ | refine xq_blockR ?_ | refine xq_scopeR ?_)
    exact xq_ret1 rfl rfl fun w' hw => ⟨by rw [checkF, hrec, hlet, List.drop_of_length_le (by omega)]; rfl, hw.kx.below⟩
theorem refCheck_enters : ∀ args w, (callFunc 12 args).run Try.prog w = .ok (.enter 12 args) w := enters_of Try.func12 (by kernel_rfl) rfl
end Go.Proofs.Ytcmepdamemnbkaa
namespace Go.Proofs.Ytcmepdamemnbkaa
open Go.RowKit Go.Proofs.YtcmepdamemnbkaaW.PrintWords
set_option linter.unusedVariables false
set_option linter.unusedSimpArgs false
/-- a row of truths that is filled from the front -/
def fillB (f : Nat → Bool) (n k : Nat) : List Bool := (List.range n).map fun i => decide (i < k) && f i
theorem fillB_len (f : Nat → Bool) (n k : Nat) : (fillB f n k).length = n := by simp [fillB]
theorem fillB_zero (f : Nat → Bool) (n : Nat) : fillB f n 0 = List.replicate n false := by
  apply List.ext_getElem?
  intro i
  by_cases h : i < n <;> simp [fillB, h, List.getElem?_replicate]
theorem fillB_get (f : Nat → Bool) (n k i : Nat) (h : i < n) : (fillB f n k)[i]? = some (decide (i < k) && f i) := by
  simp [fillB, List.getElem?_map, List.getElem?_range h]
theorem fillB_set (f : Nat → Bool) (n k : Nat) : (fillB f n k).set k (f k) = fillB f n (k + 1) := by
  apply List.ext_getElem?
  intro i
  rw [List.getElem?_set]
  by_cases h : i < n
  · rw [fillB_get _ _ _ _ h, fillB_get _ _ _ _ h]
    by_cases e : k = i
    · subst e; simp [fillB_len, h]
    · simp only [e, if_false]
      congr 2
      rw [Bool.eq_iff_iff]
      simp only [decide_eq_true_eq]
      omega
  · have h1 : (fillB f n k)[i]? = none := by rw [List.getElem?_eq_none_iff, fillB_len]; omega
    have h2 : (fillB f n (k + 1))[i]? = none := by rw [List.getElem?_eq_none_iff, fillB_len]; omega
    rw [h1, h2]
    by_cases e : k = i
    · subst e; simp [fillB_len, h]
    · simp [e]
theorem fill_upd {b : Nat} {te : TypeId} {f : Nat → Bool} {n k : Nat} {v : Bool} {η : Hp} (hv : v = f k) : Upd b (cel (((fillB f n k).map Value.bool).set (0 + (k : Int).toNat * szN 0) (.bool v)) te) ((b, true, cel ((fillB f n k).map Value.bool) te) :: η) ((b, true, cel ((fillB f n (k + 1)).map Value.bool) te) :: η) := by
  subst hv
  rw [show 0 + (k : Int).toNat * szN 0 = k by simp [szN], ← List.map_set, fillB_set]
  exact Upd.head
theorem fill_lt {f : Nat → Bool} {n k : Nat} (h : k < n) : 0 + (k : Int).toNat * szN 0 < ((fillB f n k).map Value.bool).length := by
  rw [List.length_map, fillB_len]
  simpa [szN] using h
theorem fill_all (f : Int → Bool) (r : List RecT) : fillB (fun i => f (idAt r i)) r.length r.length = r.map fun x => f x.f0 := by
  apply List.ext_getElem?
  intro i
  by_cases h : i < r.length
  · rw [fillB_get _ _ _ _ h]
    simp [h, idAt, List.getD_eq_getElem?_getD, List.getElem?_eq_getElem h]
  · have h1 : (fillB (fun i => f (idAt r i)) r.length r.length)[i]? = none := by rw [List.getElem?_eq_none_iff, fillB_len]; omega
    rw [h1, List.getElem?_map, List.getElem?_eq_none_iff.2 (by omega)]
    rfl
/-- a row of truths of the call's own, as it is read -/
theorem C_celB {w0 : World} {X : Nat → Prop} {η : Hp} {w : World} (hw : WOK w0 X η w) {b : Nat} {wr : Bool} {xs : List Bool} {t : TypeId} (hm : (b, wr, cel (xs.map .bool) t) ∈ η) (hl : xs.length ≤ 9223372036854775807) : Kd.C Kd.bool w (some ⟨b, 0, none⟩) xs.length xs := by
  refine ⟨rfl, hl, fun _ => ⟨_, rfl, fun j p hj => ⟨[.bool p], rfl, rfl, fun i u hu => ?_⟩⟩⟩
  have hi : i = 0 := by
    have := (List.getElem?_eq_some_iff.1 hu).1
    simpa using this
  subst hi
  simp at hu
  subst hu
  rw [Addr.add_lit]
  refine hw.cell hm _ ?_
  simp [Kd.bool, Kd.scalar, hj]
theorem bool_at {w : World} {A : Option Addr} {n : Nat} {zs : List Bool} (h : Kd.C Kd.bool w A n zs) (k : Nat) (hk : k < n) : ∃ ad, A = some ad ∧ RO w XNone (ad.add ((k : Int).toNat * szN 0)) [.bool (zs.getD k false)] := by
  obtain ⟨ad, cs, e, _, hK, hR⟩ := at_of h false k hk
  have hcs : cs = [.bool (zs.getD k false)] := hK
  subst hcs
  exact ⟨ad, e, by simpa [szN, Kd.bool, Kd.scalar] using hR⟩
def goneBs (r : List RecT) (l : List LetT) (day : Int) : List Bool := r.map fun x => goneB l day x.f0
theorem split4 (c1 c2 c3 c4 : Bool) : (c1 = false ∧ (c1 && c2 && (c3 || c4)) = false) ∨ (c1 = true ∧ c2 = false ∧ (c1 && c2 && (c3 || c4)) = false) ∨ (c1 = true ∧ c2 = true ∧ c3 = true ∧ (c1 && c2 && (c3 || c4)) = true)
    ∨ (c1 = true ∧ c2 = true ∧ c3 = false ∧ c4 = true ∧ (c1 && c2 && (c3 || c4)) = true) ∨ (c1 = true ∧ c2 = true ∧ c3 = false ∧ c4 = false ∧ (c1 && c2 && (c3 || c4)) = false) := by
  cases c1 <;> cases c2 <;> cases c3 <;> cases c4 <;> simp
set_option maxHeartbeats 16000000 in
theorem gone_calls (A B : Option Addr) (c c' : Nat) (r : List RecT) (l : List LetT) (day : Int) (w : World) (hr : Kd.C recK w A r.length r) (hl : Kd.C letK w B l.length l) (hlen : r.length ≤ 1000000) (hkl : BytesL l) :
    Calls Try.prog 26 #[.slice A r.length c, .slice B l.length c', .int .i64 day] w fun e w' => ∃ b o, e = .returned (.slice (some ⟨b, 0, none⟩) r.length r.length) ∧ Below w.heap.size w w' ∧ w.heap.size ≤ b ∧ w'.heap[b]? = some o ∧ cel ((goneBs r l day).map .bool) 4 o := by
  have hn := hl.2.1
  refine x_calls (X := XNone) Try.func26 rfl rfl rfl ?_
  with_reducible repeat refine xc_seq ?_
  with_reducible refine xc_region ?_
  refine xo_asg rfl rfl rfl ?_
  with_reducible refine xo_nil ?_
  with_reducible repeat (first | refine xq_then ?_ | refine xq_blockN ?_ | refine xq_scopeN ?_)
  with_reducible repeat refine xc_seq ?_
  with_reducible refine xc_region ?_
  refine xo_mv rfl rfl rfl ?_
  refine xo_len T_ rfl rfl rfl rfl ?_
  refine xo_mks TR_ rfl rfl rfl rfl rfl rfl (by omega) (by omega) rfl (fun b7 => ?_)
  refine xo_asg rfl rfl rfl ?_
  with_reducible refine xo_nil ?_
  with_reducible repeat (first | refine xq_then ?_ | refine xq_blockN ?_ | refine xq_scopeN ?_)
  with_reducible repeat refine xc_seq ?_
  with_reducible refine xc_region ?_
  refine xo_asg rfl rfl rfl ?_
  with_reducible refine xo_nil ?_
  with_reducible repeat (first | refine xq_then ?_ | refine xq_blockN ?_ | refine xq_scopeN ?_)
  with_reducible repeat refine xc_seq ?_
  with_reducible refine xc_block ?_
  refine xc_loop (γ := Nat) (fun k => k ≤ r.length) (fun k => [(0, .slice A r.length c), (1, .slice B l.length c'), (2, .int .i64 day), (7, .slice (some ⟨b7, 0, none⟩) r.length r.length), (8, .int .i64 (k : Int))])
    (fun k => [(b7, true, cel ((fillB (fun i => goneB l day (idAt r i)) r.length k).map .bool) 4)]) (fun k => r.length - k) 0 (Nat.zero_le _) ⟨rfl, rfl, rfl, rfl, rfl, trivial⟩ (by rw [fillB_zero, List.map_replicate]; exact List.Sublist.refl _) ?_
  intro k hk1
  with_reducible repeat refine xc_seq ?_
  with_reducible refine xc_region ?_
  refine xo_mv rfl rfl rfl ?_
  refine xo_mv rfl rfl rfl ?_
  refine xo_len T_ rfl rfl rfl rfl ?_
  refine xo_lss rfl rfl rfl rfl ?_
  with_reducible refine xo_nil ?_
  with_reducible repeat (first | refine xq_then ?_ | refine xq_blockN ?_ | refine xq_scopeN ?_)
  with_reducible repeat refine xc_seq ?_
  refine xc_cond rfl (fun h => ?_) (fun h => ?_)
  · have hlt : k < r.length := by have := of_decide_eq_true h; omega
    obtain ⟨ad, A2, c2, rfl, r1, hc2, hw2⟩ := rec_at hr k hlt
    have hid : idAt r k = (r.getD k zRec).f0 := rfl
    generalize r.getD k zRec = x at *
    with_reducible refine xc_skip ?_
    with_reducible repeat (first | refine xq_then ?_ | refine xq_blockN ?_ | refine xq_scopeN ?_)
    with_reducible repeat refine xc_seq ?_
    with_reducible refine xc_block ?_
    with_reducible repeat refine xc_seq ?_
    with_reducible refine xc_region ?_
    refine xo_asg rfl rfl rfl ?_
    with_reducible refine xo_nil ?_
    with_reducible repeat (first | refine xq_then ?_ | refine xq_blockN ?_ | refine xq_scopeN ?_)
    with_reducible repeat refine xc_seq ?_
    with_reducible refine xc_region ?_
    refine xo_asg rfl rfl rfl ?_
    with_reducible refine xo_nil ?_
    with_reducible repeat (first | refine xq_then ?_ | refine xq_blockN ?_ | refine xq_scopeN ?_)
    with_reducible repeat refine xc_seq ?_
    with_reducible refine xc_block ?_
    refine xc_loop (γ := Nat × Int) (fun q => q.1 ≤ l.length ∧ ∃ s : LetT × Bool, lastF l day x.f0 = latF (fun y => decide (y.f2 = x.f0) && decide (y.f1 ≤ day)) (fun y => y.f1) s (l.drop q.1) ∧ ((q.2 = -1 ∧ s.2 = false) ∨ ∃ jj : Nat, jj < l.length ∧ q.2 = (jj : Int) ∧ s = (l.getD jj zLet, true)))
      (fun q => [(0, .slice (some ad) r.length c), (1, .slice B l.length c'), (2, .int .i64 day), (7, .slice (some ⟨b7, 0, none⟩) r.length r.length), (8, .int .i64 (k : Int)), (9, .int .i64 q.2), (10, .int .i64 (q.1 : Int))])
      (fun _ => [(b7, true, cel ((fillB (fun i => goneB l day (idAt r i)) r.length k).map .bool) 4)]) (fun q => l.length - q.1) (0, -1) ⟨Nat.zero_le _, (zLet, false), rfl, .inl ⟨rfl, rfl⟩⟩ ⟨rfl, rfl, rfl, rfl, rfl, rfl, rfl, trivial⟩ (by repeat (first | exact List.Sublist.refl _ | apply List.Sublist.cons_cons | apply List.Sublist.cons | exact List.nil_sublist _)) ?_
    rintro ⟨j, best⟩ ⟨hj1, s, hlat, hs⟩
    simp only at hj1 hlat hs ⊢
    with_reducible repeat refine xc_seq ?_
    with_reducible refine xc_region ?_
    refine xo_mv rfl rfl rfl ?_
    refine xo_mv rfl rfl rfl ?_
    refine xo_len T_ rfl rfl rfl rfl ?_
    refine xo_lss rfl rfl rfl rfl ?_
    with_reducible refine xo_nil ?_
    with_reducible repeat (first | refine xq_then ?_ | refine xq_blockN ?_ | refine xq_scopeN ?_)
    with_reducible repeat refine xc_seq ?_
    refine xc_cond rfl (fun h => ?_) (fun h => ?_)
    · have hjl : j < l.length := by have := of_decide_eq_true h; omega
      obtain ⟨bd, rfl, r2⟩ := let_at hl j hjl
      rw [drop_at l zLet j hjl] at hlat
      have hyj : l.getD j zLet = l.getD j zLet := rfl
      generalize hy : l.getD j zLet = y at *
      have hbest : decide (best < 0) = true ∨ (decide (best < 0) = false ∧ ∃ yb, 0 ≤ best ∧ best < (l.length : Int) ∧ s = (yb, true) ∧ RO w XNone (bd.add (best.toNat * szN 4)) (letV yb)) := by
        rcases hs with ⟨rfl, _⟩ | ⟨jj, hjj, rfl, rfl⟩
        · exact .inl rfl
        · obtain ⟨bd2, e, r3⟩ := let_at hl jj hjj
          cases e
          exact .inr ⟨decide_eq_false (by omega), _, by omega, by omega, rfl, r3⟩
      have hT : ∃ T, latStep (fun y => decide (y.f2 = x.f0) && decide (y.f1 ≤ day)) (fun y => y.f1) s y = (if T = true then (y, true) else s) ∧ T = (decide (y.f2 = x.f0) && decide (y.f1 ≤ day) && (decide (best < 0) || decide (s.1.f1 ≤ y.f1))) := by
        refine ⟨_, ?_, rfl⟩
        rcases hs with ⟨rfl, h2⟩ | ⟨jj, hjj, rfl, rfl⟩
        · simp [latStep, h2]
        · simp only [latStep, Bool.not_true, Bool.false_or]
          rw [decide_eq_false (by omega : ¬ ((jj : Int) < 0))]
          simp
      obtain ⟨T, hT1, hT2⟩ := hT
      with_reducible refine xc_skip ?_
      with_reducible repeat (first | refine xq_then ?_ | refine xq_blockN ?_ | refine xq_scopeN ?_)
      with_reducible repeat refine xc_seq ?_
      with_reducible refine xc_block ?_
      refine xc_cut (γ := Unit) (fun _ => True) (fun _ => [(0, .slice (some ad) r.length c), (1, .slice (some bd) l.length c'), (2, .int .i64 day), (7, .slice (some ⟨b7, 0, none⟩) r.length r.length), (8, .int .i64 (k : Int)), (9, .int .i64 best), (10, .int .i64 (j : Int)), (62, .bool T)])
        (fun _ => [(b7, true, cel ((fillB (fun i => goneB l day (idAt r i)) r.length k).map .bool) 4)]) ?_ (fun _ _ => ?_)
      · rcases split4 (decide (y.f2 = x.f0)) (decide (y.f1 ≤ day)) (decide (best < 0)) (decide (s.1.f1 ≤ y.f1)) with ⟨h1, hB⟩ | ⟨h1, h2, hB⟩ | ⟨h1, h2, h3, hB⟩ | ⟨h1, h2, h3, h4, hB⟩ | ⟨h1, h2, h3, h4, hB⟩
        all_goals
          rw [hB] at hT2
          subst hT2
        rotate_left 3
        iterate 2
          rcases hbest with h | ⟨_, yb, hb0, hb1, rfl, r3⟩
          · rw [h3] at h; cases h
          · with_reducible repeat refine xc_seq ?_
            apply xc_drawN
            · exact T_.mixed
            · rfl
            · rfl
            · rfl
            · rfl
            · apply DrawOps.cons
              · intro τ
                refine xo_mv rfl rfl rfl ?_
                exact xo_fin rfl
              apply DrawOps.cons
              · intro τ
                refine xo_mv rfl rfl rfl ?_
                exact xo_fin rfl
              apply DrawOps.cons
              · intro τ
                refine xo_ia T_ rfl rfl rfl rfl rfl ⟨by omega, by omega⟩ rfl ?_
                exact xo_fin rfl
              apply DrawOps.cons
              · intro τ
                refine xo_faR T_ rfl rfl rfl rfl rfl ?_
                exact xo_fin rfl
              apply DrawOps.cons
              · intro τ
                refine xo_loadR0 T_ rfl rfl rfl (by first | assumption | exact RO.fld (by assumption) rfl) rfl ?_
                exact xo_fin rfl
              apply DrawOps.cons
              · intro τ
                refine xo_mv rfl rfl rfl ?_
                exact xo_fin rfl
              apply DrawOps.cons
              · intro τ
                refine xo_mv rfl rfl rfl ?_
                exact xo_fin rfl
              apply DrawOps.cons
              · intro τ
                refine xo_ia T_ rfl rfl rfl rfl rfl ⟨by omega, by omega⟩ rfl ?_
                exact xo_fin rfl
              apply DrawOps.cons
              · intro τ
                refine xo_faR T_ rfl rfl rfl rfl rfl ?_
                exact xo_fin rfl
              apply DrawOps.cons
              · intro τ
                refine xo_loadR0 T_ rfl rfl rfl (by first | assumption | exact RO.fld (by assumption) rfl) rfl ?_
                exact xo_fin rfl
              apply DrawOps.cons
              · intro τ
                refine xo_eql rfl rfl rfl rfl ?_
                first
                  | exact xo_fin (congrArg Value.bool h1)
                  | exact xo_fin rfl
              apply DrawOps.cons
              · intro τ
                refine xo_mv rfl rfl rfl ?_
                exact xo_fin rfl
              apply DrawOps.cons
              · intro τ
                first
                  | refine xo_not rfl rfl ?_
                  | (refine xo_mv rfl rfl rfl ?_)
                exact xo_fin rfl
              apply DrawOps.cons
              · intro τ
                first
                  | refine xo_not rfl rfl ?_
                  | (refine xo_mv rfl rfl rfl ?_)
                exact xo_fin rfl
              apply DrawOps.cons
              · intro τ
                first
                  | refine xo_not rfl rfl ?_
                  | (refine xo_ia T_ rfl rfl rfl rfl rfl ⟨by omega, by omega⟩ rfl ?_)
                exact xo_fin rfl
              apply DrawOps.cons
              · intro τ
                first
                  | refine xo_not rfl rfl ?_
                  | (refine xo_faR T_ rfl rfl rfl rfl rfl ?_)
                exact xo_fin rfl
              apply DrawOps.cons
              · intro τ
                first
                  | refine xo_not rfl rfl ?_
                  | (refine xo_loadR0 T_ rfl rfl rfl (by first | assumption | exact RO.fld (by assumption) rfl) rfl ?_)
                exact xo_fin rfl
              apply DrawOps.cons
              · intro τ
                first
                  | refine xo_not rfl rfl ?_
                  | (refine xo_mv rfl rfl rfl ?_)
                exact xo_fin rfl
              apply DrawOps.cons
              · intro τ
                first
                  | refine xo_not rfl rfl ?_
                  | (refine xo_leq rfl rfl rfl rfl ?_)
                first
                  | exact xo_fin (congrArg Value.bool h2)
                  | exact xo_fin rfl
              apply DrawOps.cons
              · intro τ
                first | refine xo_pickT rfl rfl rfl rfl ?_ | refine xo_pickF rfl rfl rfl rfl ?_
                exact xo_fin rfl
              apply DrawOps.cons
              · intro τ
                refine xo_mv rfl rfl rfl ?_
                exact xo_fin rfl
              apply DrawOps.cons
              · intro τ
                first
                  | refine xo_not rfl rfl ?_
                  | (refine xo_mv rfl rfl rfl ?_)
                exact xo_fin rfl
              apply DrawOps.cons
              · intro τ
                first
                  | refine xo_not rfl rfl ?_
                  | (refine xo_lss rfl rfl rfl rfl ?_)
                first
                  | exact xo_fin (congrArg Value.bool h3)
                  | exact xo_fin rfl
              apply DrawOps.cons
              · intro τ
                first
                  | refine xo_not rfl rfl ?_
                  | (refine xo_mv rfl rfl rfl ?_)
                exact xo_fin rfl
              apply DrawOps.cons
              · intro τ
                first
                  | refine xo_not rfl rfl ?_
                  | (refine xo_mv rfl rfl rfl ?_)
                exact xo_fin rfl
              apply DrawOps.cons
              · intro τ
                first
                  | refine xo_not rfl rfl ?_
                  | (refine xo_mv rfl rfl rfl ?_)
                exact xo_fin rfl
              apply DrawOps.cons
              · intro τ
                first
                  | refine xo_not rfl rfl ?_
                  | (refine xo_ia T_ rfl rfl rfl rfl rfl ⟨by omega, by omega⟩ rfl ?_)
                exact xo_fin rfl
              apply DrawOps.cons
              · intro τ
                first
                  | refine xo_not rfl rfl ?_
                  | (refine xo_faR T_ rfl rfl rfl rfl rfl ?_)
                exact xo_fin rfl
              apply DrawOps.cons
              · intro τ
                first
                  | refine xo_not rfl rfl ?_
                  | (refine xo_loadR0 T_ rfl rfl rfl (by first | assumption | exact RO.fld (by assumption) rfl) rfl ?_)
                exact xo_fin rfl
              apply DrawOps.cons
              · intro τ
                first
                  | refine xo_not rfl rfl ?_
                  | (refine xo_mv rfl rfl rfl ?_)
                exact xo_fin rfl
              apply DrawOps.cons
              · intro τ
                first
                  | refine xo_not rfl rfl ?_
                  | (refine xo_mv rfl rfl rfl ?_)
                exact xo_fin rfl
              apply DrawOps.cons
              · intro τ
                first
                  | refine xo_not rfl rfl ?_
                  | (refine xo_ia T_ rfl rfl rfl rfl rfl ⟨by omega, by omega⟩ rfl ?_)
                exact xo_fin rfl
              apply DrawOps.cons
              · intro τ
                first
                  | refine xo_not rfl rfl ?_
                  | (refine xo_faR T_ rfl rfl rfl rfl rfl ?_)
                exact xo_fin rfl
              apply DrawOps.cons
              · intro τ
                first
                  | refine xo_not rfl rfl ?_
                  | (refine xo_loadR0 T_ rfl rfl rfl (by first | assumption | exact RO.fld (by assumption) rfl) rfl ?_)
                exact xo_fin rfl
              apply DrawOps.cons
              · intro τ
                first
                  | refine xo_not rfl rfl ?_
                  | (refine xo_geq rfl rfl rfl rfl ?_)
                first
                  | exact xo_fin (congrArg Value.bool h4)
                  | exact xo_fin rfl
              apply DrawOps.cons
              · intro τ
                first
                  | refine xo_not rfl rfl ?_
                  | (first | refine xo_pickT rfl rfl rfl rfl ?_ | refine xo_pickF rfl rfl rfl rfl ?_)
                exact xo_fin rfl
              apply DrawOps.cons
              · intro τ
                first | refine xo_pickT rfl rfl rfl rfl ?_ | refine xo_pickF rfl rfl rfl rfl ?_
                exact xo_fin rfl
              exact DrawOps.nil
            · rfl
            with_reducible repeat (first | refine xq_then ?_ | refine xq_blockN ?_ | refine xq_scopeN ?_)
            exact xq_meet _ _ _ () trivial ⟨rfl, rfl, rfl, rfl, rfl, rfl, rfl, rfl, trivial⟩ (by repeat (first | exact List.Sublist.refl _ | apply List.Sublist.cons_cons | apply List.Sublist.cons | exact List.nil_sublist _))
        all_goals
          with_reducible repeat refine xc_seq ?_
          apply xc_drawN
          · exact T_.mixed
          · rfl
          · rfl
          · rfl
          · rfl
          · apply DrawOps.cons
            · intro τ
              refine xo_mv rfl rfl rfl ?_
              exact xo_fin rfl
            apply DrawOps.cons
            · intro τ
              refine xo_mv rfl rfl rfl ?_
              exact xo_fin rfl
            apply DrawOps.cons
            · intro τ
              refine xo_ia T_ rfl rfl rfl rfl rfl ⟨by omega, by omega⟩ rfl ?_
              exact xo_fin rfl
            apply DrawOps.cons
            · intro τ
              refine xo_faR T_ rfl rfl rfl rfl rfl ?_
              exact xo_fin rfl
            apply DrawOps.cons
            · intro τ
              refine xo_loadR0 T_ rfl rfl rfl (by first | assumption | exact RO.fld (by assumption) rfl) rfl ?_
              exact xo_fin rfl
            apply DrawOps.cons
            · intro τ
              refine xo_mv rfl rfl rfl ?_
              exact xo_fin rfl
            apply DrawOps.cons
            · intro τ
              refine xo_mv rfl rfl rfl ?_
              exact xo_fin rfl
            apply DrawOps.cons
            · intro τ
              refine xo_ia T_ rfl rfl rfl rfl rfl ⟨by omega, by omega⟩ rfl ?_
              exact xo_fin rfl
            apply DrawOps.cons
            · intro τ
              refine xo_faR T_ rfl rfl rfl rfl rfl ?_
              exact xo_fin rfl
            apply DrawOps.cons
            · intro τ
              refine xo_loadR0 T_ rfl rfl rfl (by first | assumption | exact RO.fld (by assumption) rfl) rfl ?_
              exact xo_fin rfl
            apply DrawOps.cons
            · intro τ
              refine xo_eql rfl rfl rfl rfl ?_
              first
                | exact xo_fin (congrArg Value.bool h1)
                | exact xo_fin rfl
            apply DrawOps.cons
            · intro τ
              refine xo_mv rfl rfl rfl ?_
              exact xo_fin rfl
            apply DrawOps.cons
            · intro τ
              first
                | refine xo_not rfl rfl ?_
                | (refine xo_mv rfl rfl rfl ?_)
              exact xo_fin rfl
            apply DrawOps.cons
            · intro τ
              first
                | refine xo_not rfl rfl ?_
                | (refine xo_mv rfl rfl rfl ?_)
              exact xo_fin rfl
            apply DrawOps.cons
            · intro τ
              first
                | refine xo_not rfl rfl ?_
                | (refine xo_ia T_ rfl rfl rfl rfl rfl ⟨by omega, by omega⟩ rfl ?_)
              exact xo_fin rfl
            apply DrawOps.cons
            · intro τ
              first
                | refine xo_not rfl rfl ?_
                | (refine xo_faR T_ rfl rfl rfl rfl rfl ?_)
              exact xo_fin rfl
            apply DrawOps.cons
            · intro τ
              first
                | refine xo_not rfl rfl ?_
                | (refine xo_loadR0 T_ rfl rfl rfl (by first | assumption | exact RO.fld (by assumption) rfl) rfl ?_)
              exact xo_fin rfl
            apply DrawOps.cons
            · intro τ
              first
                | refine xo_not rfl rfl ?_
                | (refine xo_mv rfl rfl rfl ?_)
              exact xo_fin rfl
            apply DrawOps.cons
            · intro τ
              first
                | refine xo_not rfl rfl ?_
                | (refine xo_leq rfl rfl rfl rfl ?_)
              first
                | exact xo_fin (congrArg Value.bool h2)
                | exact xo_fin rfl
            apply DrawOps.cons
            · intro τ
              first | refine xo_pickT rfl rfl rfl rfl ?_ | refine xo_pickF rfl rfl rfl rfl ?_
              exact xo_fin rfl
            apply DrawOps.cons
            · intro τ
              refine xo_mv rfl rfl rfl ?_
              exact xo_fin rfl
            apply DrawOps.cons
            · intro τ
              first
                | refine xo_not rfl rfl ?_
                | (refine xo_mv rfl rfl rfl ?_)
              exact xo_fin rfl
            apply DrawOps.cons
            · intro τ
              first
                | refine xo_not rfl rfl ?_
                | (refine xo_lss rfl rfl rfl rfl ?_)
              first
                | exact xo_fin (congrArg Value.bool h3)
                | exact xo_fin rfl
            apply DrawOps.cons
            · intro τ
              first
                | refine xo_not rfl rfl ?_
                | (refine xo_mv rfl rfl rfl ?_)
              exact xo_fin rfl
            apply DrawOps.cons
            · intro τ
              first
                | refine xo_not rfl rfl ?_
                | (refine xo_mv rfl rfl rfl ?_)
              exact xo_fin rfl
            apply DrawOps.cons
            · intro τ
              first
                | refine xo_not rfl rfl ?_
                | (refine xo_mv rfl rfl rfl ?_)
              exact xo_fin rfl
            apply DrawOps.cons
            · intro τ
              first
                | refine xo_not rfl rfl ?_
                | (refine xo_ia T_ rfl rfl rfl rfl rfl ⟨by omega, by omega⟩ rfl ?_)
              exact xo_fin rfl
            apply DrawOps.cons
            · intro τ
              first
                | refine xo_not rfl rfl ?_
                | (refine xo_faR T_ rfl rfl rfl rfl rfl ?_)
              exact xo_fin rfl
            apply DrawOps.cons
            · intro τ
              first
                | refine xo_not rfl rfl ?_
                | (refine xo_loadR0 T_ rfl rfl rfl (by first | assumption | exact RO.fld (by assumption) rfl) rfl ?_)
              exact xo_fin rfl
            apply DrawOps.cons
            · intro τ
              first
                | refine xo_not rfl rfl ?_
                | (refine xo_mv rfl rfl rfl ?_)
              exact xo_fin rfl
            apply DrawOps.cons
            · intro τ
              first
                | refine xo_not rfl rfl ?_
                | (refine xo_mv rfl rfl rfl ?_)
              exact xo_fin rfl
            apply DrawOps.cons
            · intro τ
              first
                | refine xo_not rfl rfl ?_
                | (refine xo_ia T_ rfl rfl rfl rfl rfl ⟨by omega, by omega⟩ rfl ?_)
              exact xo_fin rfl
            apply DrawOps.cons
            · intro τ
              first
                | refine xo_not rfl rfl ?_
                | (refine xo_faR T_ rfl rfl rfl rfl rfl ?_)
              exact xo_fin rfl
            apply DrawOps.cons
            · intro τ
              first
                | refine xo_not rfl rfl ?_
                | (refine xo_loadR0 T_ rfl rfl rfl (by first | assumption | exact RO.fld (by assumption) rfl) rfl ?_)
              exact xo_fin rfl
            apply DrawOps.cons
            · intro τ
              first
                | refine xo_not rfl rfl ?_
                | (refine xo_geq rfl rfl rfl rfl ?_)
              exact xo_fin rfl
            apply DrawOps.cons
            · intro τ
              first
                | refine xo_not rfl rfl ?_
                | (first | refine xo_pickT rfl rfl rfl rfl ?_ | refine xo_pickF rfl rfl rfl rfl ?_)
              exact xo_fin rfl
            apply DrawOps.cons
            · intro τ
              first | refine xo_pickT rfl rfl rfl rfl ?_ | refine xo_pickF rfl rfl rfl rfl ?_
              exact xo_fin rfl
            exact DrawOps.nil
          · rfl
          with_reducible repeat (first | refine xq_then ?_ | refine xq_blockN ?_ | refine xq_scopeN ?_)
          exact xq_meet _ _ _ () trivial ⟨rfl, rfl, rfl, rfl, rfl, rfl, rfl, rfl, trivial⟩ (by repeat (first | exact List.Sublist.refl _ | apply List.Sublist.cons_cons | apply List.Sublist.cons | exact List.nil_sublist _))
      rw [latF, List.foldl_cons, hT1] at hlat
      with_reducible repeat refine xc_seq ?_
      refine xc_cond rfl (fun hb => ?_) (fun hb => ?_)
      · with_reducible repeat refine xc_seq ?_
        with_reducible refine xc_region ?_
        refine xo_mv rfl rfl rfl ?_
        refine xo_asg rfl rfl rfl ?_
        with_reducible refine xo_nil ?_
        with_reducible repeat (first | refine xq_then ?_ | refine xq_blockN ?_ | refine xq_scopeN ?_)
        with_reducible repeat refine xc_seq ?_
        with_reducible refine xc_region ?_
        refine xo_mv rfl rfl rfl ?_
        refine xo_add rfl rfl rfl (by omega) rfl ?_
        refine xo_asg rfl rfl rfl ?_
        with_reducible refine xo_nil ?_
        with_reducible repeat (first | refine xq_then ?_ | refine xq_blockN ?_ | refine xq_scopeN ?_)
        exact xq_again _ _ _ _ _ (j + 1, (j : Int)) ⟨by omega, (y, true), by rw [hlat, hb]; rfl, .inr ⟨j, hjl, rfl, by rw [hy]⟩⟩ (by first | omega | (simp only; omega)) ⟨rfl, rfl, rfl, rfl, rfl, rfl, rfl, trivial⟩ (by repeat (first | exact List.Sublist.refl _ | apply List.Sublist.cons_cons | apply List.Sublist.cons | exact List.nil_sublist _))
      · with_reducible refine xc_skip ?_
        with_reducible repeat (first | refine xq_then ?_ | refine xq_blockN ?_ | refine xq_scopeN ?_)
        with_reducible repeat refine xc_seq ?_
        with_reducible refine xc_region ?_
        refine xo_mv rfl rfl rfl ?_
        refine xo_add rfl rfl rfl (by omega) rfl ?_
        refine xo_asg rfl rfl rfl ?_
        with_reducible refine xo_nil ?_
        with_reducible repeat (first | refine xq_then ?_ | refine xq_blockN ?_ | refine xq_scopeN ?_)
        exact xq_again _ _ _ _ _ (j + 1, best) ⟨by omega, s, by rw [hlat, hb]; rfl, hs⟩ (by first | omega | (simp only; omega)) ⟨rfl, rfl, rfl, rfl, rfl, rfl, rfl, trivial⟩ (by repeat (first | exact List.Sublist.refl _ | apply List.Sublist.cons_cons | apply List.Sublist.cons | exact List.nil_sublist _))
    · have hge : ¬ j < l.length := by have := of_decide_eq_false h; omega
      rw [List.drop_of_length_le (by omega)] at hlat
      have hgb : goneB l day (idAt r k) = (s.2 && decide (s.1.f3 = 1)) := by rw [goneB, hid, hlat]; rfl
      with_reducible refine xc_exit ?_
      with_reducible repeat (first | refine xq_blockX ?_ | refine xq_thenE ?_ | refine xq_blockE rfl ?_ | refine xq_scopeE ?_)
      with_reducible repeat (first | refine xq_then ?_ | refine xq_blockN ?_ | refine xq_scopeN ?_)
      rcases hs with ⟨rfl, h2⟩ | ⟨jj, hjj, rfl, rfl⟩
      · with_reducible repeat refine xc_seq ?_
        with_reducible refine xc_region ?_
        refine xo_mv rfl rfl rfl ?_
        refine xo_mv rfl rfl rfl ?_
        refine xo_mv rfl rfl rfl ?_
        refine xo_geq rfl rfl rfl rfl ?_
        refine xo_mv rfl rfl rfl ?_
        first
          | refine xo_not rfl rfl ?_
          | (refine xo_mv rfl rfl rfl ?_)
        first
          | refine xo_not rfl rfl ?_
          | (refine xo_mv rfl rfl rfl ?_)
        first
          | refine xo_not rfl rfl ?_
          | (refine xo_ia T_ rfl rfl rfl rfl rfl ⟨by omega, by omega⟩ rfl ?_)
        first
          | refine xo_not rfl rfl ?_
          | (refine xo_faR T_ rfl rfl rfl rfl rfl ?_)
        first
          | refine xo_not rfl rfl ?_
          | (refine xo_loadR0 T_ rfl rfl rfl (by first | assumption | exact RO.fld (by assumption) rfl) rfl ?_)
        first
          | refine xo_not rfl rfl ?_
          | (refine xo_eql rfl rfl rfl rfl ?_)
        first | refine xo_pickT rfl rfl rfl rfl ?_ | refine xo_pickF rfl rfl rfl rfl ?_
        refine xo_ia T_ rfl rfl rfl rfl rfl ⟨by omega, by omega⟩ rfl ?_
        refine xo_storeI T_ rfl rfl rfl rfl (by repeat (first | exact List.Mem.head _ | apply List.Mem.tail | apply List.mem_append_right)) rfl rfl (fill_lt hlt) (fill_upd (by rw [hgb, h2]; rfl)) rfl ?_
        with_reducible refine xo_nil ?_
        with_reducible repeat (first | refine xq_then ?_ | refine xq_blockN ?_ | refine xq_scopeN ?_)
        with_reducible repeat refine xc_seq ?_
        with_reducible refine xc_region ?_
        refine xo_mv rfl rfl rfl ?_
        refine xo_add rfl rfl rfl (by omega) rfl ?_
        refine xo_asg rfl rfl rfl ?_
        with_reducible refine xo_nil ?_
        with_reducible repeat (first | refine xq_then ?_ | refine xq_blockN ?_ | refine xq_scopeN ?_)
        exact xq_again _ _ _ _ _ (k + 1) (by omega) (by omega) ⟨rfl, rfl, rfl, rfl, rfl, trivial⟩ (by repeat (first | exact List.Sublist.refl _ | apply List.Sublist.cons_cons | apply List.Sublist.cons | exact List.nil_sublist _))
      · obtain ⟨bd, rfl, r2⟩ := let_at hl jj hjj
        have h67 : decide ((0 : Int) ≤ (jj : Int)) = true := decide_eq_true (by omega)
        with_reducible repeat refine xc_seq ?_
        with_reducible refine xc_region ?_
        refine xo_mv rfl rfl rfl ?_
        refine xo_mv rfl rfl rfl ?_
        refine xo_mv rfl rfl rfl ?_
        refine xo_geq rfl rfl rfl rfl ?_
        refine xo_as (i := 67) rfl (congrArg Value.bool h67) ?_
        refine xo_mv rfl rfl rfl ?_
        first
          | refine xo_not rfl rfl ?_
          | (refine xo_mv rfl rfl rfl ?_)
        first
          | refine xo_not rfl rfl ?_
          | (refine xo_mv rfl rfl rfl ?_)
        first
          | refine xo_not rfl rfl ?_
          | (refine xo_ia T_ rfl rfl rfl rfl rfl ⟨by omega, by omega⟩ rfl ?_)
        first
          | refine xo_not rfl rfl ?_
          | (refine xo_faR T_ rfl rfl rfl rfl rfl ?_)
        first
          | refine xo_not rfl rfl ?_
          | (refine xo_loadR0 T_ rfl rfl rfl (by first | assumption | exact RO.fld (by assumption) rfl) rfl ?_)
        first
          | refine xo_not rfl rfl ?_
          | (refine xo_eql rfl rfl rfl rfl ?_)
        first | refine xo_pickT rfl rfl rfl rfl ?_ | refine xo_pickF rfl rfl rfl rfl ?_
        refine xo_ia T_ rfl rfl rfl rfl rfl ⟨by omega, by omega⟩ rfl ?_
        refine xo_storeI T_ rfl rfl rfl rfl (by repeat (first | exact List.Mem.head _ | apply List.Mem.tail | apply List.mem_append_right)) rfl rfl (fill_lt hlt) (fill_upd (by rw [hgb]; rfl)) rfl ?_
        with_reducible refine xo_nil ?_
        with_reducible repeat (first | refine xq_then ?_ | refine xq_blockN ?_ | refine xq_scopeN ?_)
        with_reducible repeat refine xc_seq ?_
        with_reducible refine xc_region ?_
        refine xo_mv rfl rfl rfl ?_
        refine xo_add rfl rfl rfl (by omega) rfl ?_
        refine xo_asg rfl rfl rfl ?_
        with_reducible refine xo_nil ?_
        with_reducible repeat (first | refine xq_then ?_ | refine xq_blockN ?_ | refine xq_scopeN ?_)
        exact xq_again _ _ _ _ _ (k + 1) (by omega) (by omega) ⟨rfl, rfl, rfl, rfl, rfl, trivial⟩ (by repeat (first | exact List.Sublist.refl _ | apply List.Sublist.cons_cons | apply List.Sublist.cons | exact List.nil_sublist _))
  · have hge : ¬ k < r.length := by have := of_decide_eq_false h; omega
    have hkk : k = r.length := by omega
    subst hkk
    with_reducible refine xc_exit ?_
    with_reducible repeat (first | refine xq_blockX ?_ | refine xq_thenE ?_ | refine xq_blockE rfl ?_ | refine xq_scopeE ?_)
    with_reducible repeat (first | refine xq_then ?_ | refine xq_blockN ?_ | refine xq_scopeN ?_)
    with_reducible repeat refine xc_seq ?_
    with_reducible refine xc_region ?_
    refine xo_mv rfl rfl rfl ?_
    refine xo_asg rfl rfl rfl ?_
    with_reducible refine xo_nil ?_
    with_reducible repeat (first | refine xq_then ?_ | refine xq_blockN ?_ | refine xq_scopeN ?_)
    with_reducible repeat refine xc_seq ?_
    with_reducible refine xc_ret ?_
    with_reducible repeat (first | refine xq_thenR ?_ | refine xq_blockR ?_ | refine xq_scopeR ?_)
    refine xq_ret1 rfl rfl fun w' hw => ?_
    obtain ⟨o, h1, h2⟩ := hw.bl _ (List.Mem.head _)
    refine ⟨b7, o, rfl, hw.kx.below, hw.own (List.Mem.head _), h1, ?_⟩
    rw [goneBs, ← fill_all (fun i => goneB l day i)]
    exact h2
theorem gone_enters : ∀ args w, (callFunc 26 args).run Try.prog w = .ok (.enter 26 args) w := enters_of Try.func26 (by kernel_rfl) rfl
end Go.Proofs.Ytcmepdamemnbkaa
namespace Go.Proofs.Ytcmepdamemnbkaa
open Go.RowKit Go.Proofs.YtcmepdamemnbkaaW.PrintWords
set_option linter.unusedVariables false
set_option linter.unusedSimpArgs false
theorem recorded_len {r : List RecT} (h : recordedF r = true) : r.length ≤ 12 := by
  simp only [recordedF, Bool.and_eq_true, decide_eq_true_eq] at h
  exact h.2
theorem sorted_of {r : List RecT} (h : recordedF r = true) : SortedIds r := by
  simp only [recordedF, Bool.and_eq_true] at h
  exact (recF_sorted r _ _ h.1).2
theorem sorted_inj {r : List RecT} (h : SortedIds r) {i j : Nat} (hi : i < r.length) (hj : j < r.length) (e : idAt r i = idAt r j) : i = j := by
  by_cases h1 : i < j
  · have := sorted_lt h j i h1 hj; omega
  · by_cases h2 : j < i
    · have := sorted_lt h i j h2 hi; omega
    · omega
theorem idAt_mem (r : List RecT) {i : Nat} (h : i < r.length) : r.getD i zRec ∈ r := getD_mem r zRec i h
theorem mem_idAt {r : List RecT} {x : RecT} (h : x ∈ r) : ∃ i, i < r.length ∧ r.getD i zRec = x := by
  obtain ⟨i, hi, rfl⟩ := List.getElem_of_mem h
  exact ⟨i, hi, by simp [List.getD_eq_getElem?_getD, List.getElem?_eq_getElem hi]⟩
theorem wayF_mem {bs : List Int} : ∀ (w : List Int) (p : Int), wayF bs p w = true → ∀ n ∈ w, n ∈ bs
  | [], _, _, n, h => by cases h
  | m :: w, p, h, n, hn => by
    simp only [wayF, Bool.and_eq_true, Bool.not_eq_true', Bool.or_eq_false_iff, Bool.not_eq_false', decide_eq_true_eq] at h
    rcases List.mem_cons.1 hn with rfl | hn
    · exact h.1.2
    · exact wayF_mem w m h.2 n hn
theorem recF_known : ∀ (r : List RecT) (bs : List Int) (last : Int), recF bs last r = true → ∀ x ∈ r, ∀ way ∈ x.f2, ∀ n ∈ way, n ∈ bs ∨ knownF r n = true
  | [], _, _, _, x, h, _, _, _, _ => by cases h
  | y :: r, bs, last, h, x, hx, way, hw, n, hn => by
    simp only [recF, Bool.and_eq_true] at h
    obtain ⟨_, h1, h2⟩ := h
    rcases List.mem_cons.1 hx with rfl | hx
    · rw [waysF, List.all_eq_true] at h1
      have := h1 way hw
      simp only [Bool.and_eq_true] at this
      exact .inl (wayF_mem way _ this.1 n hn)
    · rcases recF_known r _ _ h2 x hx way hw n hn with h3 | h3
      · rcases mem_insN.1 h3 with rfl | h3
        · right; simp [knownF]
        · exact .inl h3
      · right
        simp only [knownF, List.any_cons, Bool.or_eq_true] at h3 ⊢
        exact .inr h3
theorem recorded_known {r : List RecT} (h : recordedF r = true) {x : RecT} (hx : x ∈ r) {way : List Int} (hw : way ∈ x.f2) {n : Int} (hn : n ∈ way) : knownF r n = true := by
  simp only [recordedF, Bool.and_eq_true] at h
  rcases recF_known r _ _ h.1 x hx way hw n hn with h1 | h1
  · cases h1
  · exact h1
theorem idxF_at {α : Type} (p : α → Bool) (z : α) : ∀ (zs : List α) (i : Nat), zs.any p = true → ∃ a, a < zs.length ∧ idxF p zs i = ((i + a : Nat) : Int) ∧ p (zs.getD a z) = true
  | [], _, h => by cases h
  | x :: r, i, h => by
    by_cases hx : p x = true
    · exact ⟨0, by simp, by simp [idxF, hx], by simpa using hx⟩
    · have hx' : p x = false := by simpa using hx
      rw [List.any_cons, hx', Bool.false_or] at h
      obtain ⟨a, h1, h2, h3⟩ := idxF_at p z r (i + 1) h
      exact ⟨a + 1, by simpa using h1, by rw [idxF, hx', if_neg (by simp), h2]; omega, by simpa using h3⟩
theorem atF_known {r : List RecT} {n : Int} (h : knownF r n = true) : ∃ a, a < r.length ∧ atF r n = (a : Int) ∧ idAt r a = n := by
  obtain ⟨a, h1, h2, h3⟩ := idxF_at (fun x : RecT => decide (x.f0 = n)) zRec r 0 h
  exact ⟨a, h1, by rw [atF, h2]; simp, of_decide_eq_true h3⟩
theorem holdsL_mem {G : List Int} : ∀ (r : List RecT) (bs : List Int) (n : Int), n ∈ holdsL G bs r → ∃ i, i < r.length ∧ idAt r i = n
  | [], _, n, h => by cases h
  | x :: r, bs, n, h => by
    unfold holdsL at h
    split at h
    · obtain ⟨i, h1, h2⟩ := holdsL_mem r _ n h
      exact ⟨i + 1, by simpa using h1, by simpa [idAt] using h2⟩
    · rcases List.mem_cons.1 h with rfl | h
      · exact ⟨0, by simp, rfl⟩
      · obtain ⟨i, h1, h2⟩ := holdsL_mem r _ n h
        exact ⟨i + 1, by simpa using h1, by simpa [idAt] using h2⟩
theorem idAt_drop (r : List RecT) (k i : Nat) : idAt (r.drop k) i = idAt r (k + i) := by simp [idAt, List.getD_eq_getElem?_getD, List.getElem?_drop]
theorem hold_state (r : List RecT) (G : List Int) : ∀ k, k ≤ r.length → ∃ bs pre, holdsF r G = pre ++ holdsL G bs (r.drop k) ∧ (∀ n, n ∈ bs ↔ n ∈ pre) ∧ ∀ n ∈ pre, ∃ i, i < k ∧ idAt r i = n
  | 0, _ => ⟨[], [], rfl, fun n => Iff.rfl, fun n h => by cases h⟩
  | k + 1, hk => by
    obtain ⟨bs, pre, h1, h2, h3⟩ := hold_state r G k (by omega)
    rw [drop_at r zRec k (by omega), holdsL] at h1
    split at h1
    · exact ⟨bs, pre, h1, h2, fun n hn => by obtain ⟨i, hi, e⟩ := h3 n hn; exact ⟨i, by omega, e⟩⟩
    · refine ⟨insN (r.getD k zRec).f0 bs, pre ++ [(r.getD k zRec).f0], by rw [h1, List.append_assoc]; rfl, fun n => ?_, fun n hn => ?_⟩
      · rw [mem_insN, h2, List.mem_append, List.mem_singleton]
        exact or_comm
      · rcases List.mem_append.1 hn with hn | hn
        · obtain ⟨i, hi, e⟩ := h3 n hn; exact ⟨i, by omega, e⟩
        · rw [List.mem_singleton] at hn; exact ⟨k, by omega, hn.symm⟩
/-- what the reference's row of truths says of the k-th record -/
theorem hold_at {r : List RecT} (hs : SortedIds r) (G : List Int) (k : Nat) (hk : k < r.length) :
    ∃ bs, decide (idAt r k ∈ holdsF r G) = (standsF bs (r.getD k zRec).f2 && !decide (idAt r k ∈ G)) ∧ ∀ n, n ∈ bs ↔ n ∈ holdsF r G ∧ ∃ i, i < k ∧ idAt r i = n := by
  obtain ⟨bs, pre, h1, h2, h3⟩ := hold_state r G k (by omega)
  have hlater : ∀ bs n, n ∈ holdsL G bs (r.drop (k + 1)) → ∃ i, k < i ∧ i < r.length ∧ idAt r i = n := fun bs n hn => by
    obtain ⟨i, hi, e⟩ := holdsL_mem _ _ _ hn
    rw [idAt_drop] at e
    rw [List.length_drop] at hi
    exact ⟨k + 1 + i, by omega, by omega, e⟩
  have hnot : ∀ bs, idAt r k ∉ holdsL G bs (r.drop (k + 1)) := fun bs hn => by
    obtain ⟨i, h4, h5, e⟩ := hlater bs _ hn
    have := sorted_inj hs h5 hk e
    omega
  have hpre : idAt r k ∉ pre := fun hn => by
    obtain ⟨i, hi, e⟩ := h3 _ hn
    have := sorted_inj hs (by omega) hk e
    omega
  have hall : ∀ n, n ∈ holdsL G bs (r.drop k) → ∃ i, k ≤ i ∧ i < r.length ∧ idAt r i = n := fun n hn => by
    obtain ⟨i, hi, e⟩ := holdsL_mem _ _ _ hn
    rw [idAt_drop] at e
    rw [List.length_drop] at hi
    exact ⟨k + i, by omega, by omega, e⟩
  refine ⟨bs, ?_, fun n => ?_⟩
  · have h4 : idAt r k ∈ holdsF r G ↔ idAt r k ∈ holdsL G bs (r.drop k) := by
      rw [h1, List.mem_append]
      exact ⟨fun h => h.resolve_left hpre, .inr⟩
    have hid : (r.getD k zRec).f0 = idAt r k := rfl
    rw [drop_at r zRec k hk, holdsL, hid] at h4
    rw [Bool.eq_iff_iff, decide_eq_true_eq, h4]
    by_cases h5 : idAt r k ∈ G <;> cases h6 : standsF bs (r.getD k zRec).f2 <;> simp [h5, hnot]
  · rw [h2, h1, List.mem_append]
    constructor
    · intro hn
      exact ⟨.inl hn, h3 n hn⟩
    · rintro ⟨hn | hn, i, hi, e⟩
      · exact hn
      · obtain ⟨j, h4, h5, e2⟩ := hall n hn
        have := sorted_inj hs (by omega : i < r.length) h5 (e.trans e2.symm)
        omega
theorem fill_load {f : Nat → Bool} {n k a : Nat} (h : a < n) : ((fillB f n k).map Value.bool)[0 + (a : Int).toNat * szN 0]? = some (.bool (decide (a < k) && f a)) := by
  rw [show 0 + (a : Int).toNat * szN 0 = a by simp [szN], List.getElem?_map, fillB_get _ _ _ _ h]
  rfl
end Go.Proofs.Ytcmepdamemnbkaa
namespace Go.Proofs.Ytcmepdamemnbkaa
open Go.RowKit Go.Proofs.YtcmepdamemnbkaaW.PrintWords
set_option linter.unusedVariables false
set_option linter.unusedSimpArgs false
def inB (r : List RecT) (H : List Int) : List Bool := r.map fun x => decide (x.f0 ∈ H)
theorem inB_get {r : List RecT} {H : List Int} {k : Nat} (hk : k < r.length) : (inB r H).getD k false = decide (idAt r k ∈ H) := by
  simp [inB, idAt, List.getD_eq_getElem?_getD, List.getElem?_eq_getElem hk]
theorem standsF_at (bs : List Int) (ways : List (List Int)) (i : Nat) (hi : i < ways.length) : (ways.drop i).any (allIn bs) = (allIn bs (ways.getD i []) || (ways.drop (i + 1)).any (allIn bs)) := by
  rw [drop_at ways [] i hi, List.any_cons]
theorem allIn_at (bs : List Int) (way : List Int) (j : Nat) (hj : j < way.length) : allIn bs (way.drop j) = (decide (way.getD j 0 ∈ bs) && allIn bs (way.drop (j + 1))) := by
  rw [drop_at way 0 j hj, allIn_cons]
set_option maxHeartbeats 16000000 in
theorem hold_calls (A B : Option Addr) (c c' : Nat) (r : List RecT) (G : List Int) (w : World) (hr : Kd.C recK w A r.length r) (hg : Kd.C Kd.bool w B r.length (inB r G)) (hok : recordedF r = true) :
    Calls Try.prog 25 #[.slice A r.length c, .slice B r.length c'] w fun e w' => ∃ b o, e = .returned (.slice (some ⟨b, 0, none⟩) r.length r.length) ∧ Below w.heap.size w w' ∧ w.heap.size ≤ b ∧ w'.heap[b]? = some o ∧ cel ((inB r (holdsF r G)).map .bool) 4 o := by
  have hlen := recorded_len hok
  have hsrt := sorted_of hok
  refine x_calls (X := XNone) Try.func25 rfl rfl rfl ?_
  with_reducible repeat refine xc_seq ?_
  with_reducible refine xc_region ?_
  refine xo_asg rfl rfl rfl ?_
  with_reducible refine xo_nil ?_
  with_reducible repeat (first | refine xq_then ?_ | refine xq_blockN ?_ | refine xq_scopeN ?_)
  with_reducible repeat refine xc_seq ?_
  with_reducible refine xc_region ?_
  refine xo_mv rfl rfl rfl ?_
  refine xo_len T_ rfl rfl rfl rfl ?_
  refine xo_mks TR_ rfl rfl rfl rfl rfl rfl (by omega) (by omega) rfl (fun b5 => ?_)
  refine xo_asg rfl rfl rfl ?_
  with_reducible refine xo_nil ?_
  with_reducible repeat (first | refine xq_then ?_ | refine xq_blockN ?_ | refine xq_scopeN ?_)
  with_reducible repeat refine xc_seq ?_
  with_reducible refine xc_region ?_
  refine xo_asg rfl rfl rfl ?_
  with_reducible refine xo_nil ?_
  with_reducible repeat (first | refine xq_then ?_ | refine xq_blockN ?_ | refine xq_scopeN ?_)
  with_reducible repeat refine xc_seq ?_
  with_reducible refine xc_block ?_
  refine xc_loop (γ := Nat) (fun k => k ≤ r.length) (fun k => [(0, .slice A r.length c), (1, .slice B r.length c'), (5, .slice (some ⟨b5, 0, none⟩) r.length r.length), (6, .int .i64 (k : Int))])
    (fun k => [(b5, true, cel ((fillB (fun i => decide (idAt r i ∈ holdsF r G)) r.length k).map .bool) 4)]) (fun k => r.length - k) 0 (Nat.zero_le _) ⟨rfl, rfl, rfl, rfl, trivial⟩ (by rw [fillB_zero, List.map_replicate]; exact List.Sublist.refl _) ?_
  intro k hk1
  with_reducible repeat refine xc_seq ?_
  with_reducible refine xc_region ?_
  refine xo_mv rfl rfl rfl ?_
  refine xo_mv rfl rfl rfl ?_
  refine xo_len T_ rfl rfl rfl rfl ?_
  refine xo_lss rfl rfl rfl rfl ?_
  with_reducible refine xo_nil ?_
  with_reducible repeat (first | refine xq_then ?_ | refine xq_blockN ?_ | refine xq_scopeN ?_)
  with_reducible repeat refine xc_seq ?_
  refine xc_cond rfl (fun h => ?_) (fun h => ?_)
  · have hlt : k < r.length := by have := of_decide_eq_true h; omega
    obtain ⟨ad, A2, c2, rfl, r1, hc2, hw2⟩ := rec_at hr k hlt
    obtain ⟨bd, rfl, r2⟩ := bool_at hg k hlt
    rw [inB_get hlt] at r2
    obtain ⟨bs, hb1, hb2⟩ := hold_at hsrt G k hlt
    have hkn : ∀ way ∈ (r.getD k zRec).f2, ∀ n ∈ way, ∃ a, a < r.length ∧ atF r n = (a : Int) ∧ (decide (a < k) && decide (idAt r a ∈ holdsF r G)) = decide (n ∈ bs) := fun way hway n hn => by
      obtain ⟨a, h1, h2, h3⟩ := atF_known (recorded_known hok (getD_mem r zRec k hlt) hway hn)
      refine ⟨a, h1, h2, ?_⟩
      rw [h3, Bool.eq_iff_iff]
      simp only [Bool.and_eq_true, decide_eq_true_eq]
      rw [hb2]
      constructor
      · rintro ⟨h4, h5⟩
        exact ⟨h5, a, h4, h3⟩
      · rintro ⟨h5, i, h4, h6⟩
        have := sorted_inj hsrt (by omega : i < r.length) h1 (h6.trans h3.symm)
        exact ⟨by omega, h5⟩
    generalize r.getD k zRec = x at *
    have hn2 := hw2.2.1
    with_reducible refine xc_skip ?_
    with_reducible repeat (first | refine xq_then ?_ | refine xq_blockN ?_ | refine xq_scopeN ?_)
    with_reducible repeat refine xc_seq ?_
    with_reducible refine xc_block ?_
    with_reducible repeat refine xc_seq ?_
    with_reducible refine xc_region ?_
    refine xo_mv rfl rfl rfl ?_
    refine xo_mv rfl rfl rfl ?_
    refine xo_ia T_ rfl rfl rfl rfl rfl ⟨by omega, by omega⟩ rfl ?_
    refine xo_faR T_ rfl rfl rfl rfl rfl ?_
    refine xo_loadR0 T_ rfl rfl rfl (by first | assumption | exact RO.fld (by assumption) rfl) rfl ?_
    refine xo_len T_ rfl rfl rfl rfl ?_
    refine xo_eql rfl rfl rfl rfl ?_
    refine xo_asg rfl rfl rfl ?_
    with_reducible refine xo_nil ?_
    with_reducible repeat (first | refine xq_then ?_ | refine xq_blockN ?_ | refine xq_scopeN ?_)
    with_reducible repeat refine xc_seq ?_
    with_reducible refine xc_region ?_
    refine xo_asg rfl rfl rfl ?_
    with_reducible refine xo_nil ?_
    with_reducible repeat (first | refine xq_then ?_ | refine xq_blockN ?_ | refine xq_scopeN ?_)
    with_reducible repeat refine xc_seq ?_
    with_reducible refine xc_block ?_
    refine xc_loop (γ := Nat × Bool) (fun q => q.1 ≤ x.f2.length ∧ standsF bs x.f2 = (q.2 || (x.f2.drop q.1).any (allIn bs)))
      (fun q => [(0, .slice (some ad) r.length c), (1, .slice (some bd) r.length c'), (5, .slice (some ⟨b5, 0, none⟩) r.length r.length), (6, .int .i64 (k : Int)), (7, .bool q.2), (8, .int .i64 (q.1 : Int))])
      (fun _ => [(b5, true, cel ((fillB (fun i => decide (idAt r i ∈ holdsF r G)) r.length k).map .bool) 4)]) (fun q => x.f2.length - q.1) (0, decide ((x.f2.length : Int) = 0))
      ⟨Nat.zero_le _, by rw [standsF]; simp⟩ ⟨rfl, rfl, rfl, rfl, rfl, rfl, trivial⟩ (by repeat (first | exact List.Sublist.refl _ | apply List.Sublist.cons_cons | apply List.Sublist.cons | exact List.nil_sublist _)) ?_
    rintro ⟨i, an⟩ ⟨hi1, hst⟩
    simp only at hi1 hst ⊢
    with_reducible repeat refine xc_seq ?_
    with_reducible refine xc_region ?_
    refine xo_mv rfl rfl rfl ?_
    refine xo_mv rfl rfl rfl ?_
    refine xo_mv rfl rfl rfl ?_
    refine xo_ia T_ rfl rfl rfl rfl rfl ⟨by omega, by omega⟩ rfl ?_
    refine xo_faR T_ rfl rfl rfl rfl rfl ?_
    refine xo_loadR0 T_ rfl rfl rfl (by first | assumption | exact RO.fld (by assumption) rfl) rfl ?_
    refine xo_len T_ rfl rfl rfl rfl ?_
    refine xo_lss rfl rfl rfl rfl ?_
    with_reducible refine xo_nil ?_
    with_reducible repeat (first | refine xq_then ?_ | refine xq_blockN ?_ | refine xq_scopeN ?_)
    with_reducible repeat refine xc_seq ?_
    refine xc_cond rfl (fun h => ?_) (fun h => ?_)
    · have hil : i < x.f2.length := by have := of_decide_eq_true h; omega
      obtain ⟨ad2, A4, c4, rfl, r3, hc3, hw3⟩ := way_at hw2 i hil
      rw [standsF_at bs _ i hil] at hst
      have hkw := hkn _ (getD_mem x.f2 [] i hil)
      generalize x.f2.getD i [] = way at *
      have hn3 := hw3.2.1
      with_reducible refine xc_skip ?_
      with_reducible repeat (first | refine xq_then ?_ | refine xq_blockN ?_ | refine xq_scopeN ?_)
      with_reducible repeat refine xc_seq ?_
      with_reducible refine xc_block ?_
      with_reducible repeat refine xc_seq ?_
      with_reducible refine xc_region ?_
      refine xo_asg rfl rfl rfl ?_
      with_reducible refine xo_nil ?_
      with_reducible repeat (first | refine xq_then ?_ | refine xq_blockN ?_ | refine xq_scopeN ?_)
      with_reducible repeat refine xc_seq ?_
      with_reducible refine xc_region ?_
      refine xo_asg rfl rfl rfl ?_
      with_reducible refine xo_nil ?_
      with_reducible repeat (first | refine xq_then ?_ | refine xq_blockN ?_ | refine xq_scopeN ?_)
      with_reducible repeat refine xc_seq ?_
      with_reducible refine xc_block ?_
      refine xc_loop (γ := Nat × Bool) (fun q => q.1 ≤ way.length ∧ allIn bs way = (q.2 && allIn bs (way.drop q.1)))
        (fun q => [(0, .slice (some ad) r.length c), (1, .slice (some bd) r.length c'), (5, .slice (some ⟨b5, 0, none⟩) r.length r.length), (6, .int .i64 (k : Int)), (7, .bool an), (8, .int .i64 (i : Int)), (9, .bool q.2), (10, .int .i64 (q.1 : Int))])
        (fun _ => [(b5, true, cel ((fillB (fun i => decide (idAt r i ∈ holdsF r G)) r.length k).map .bool) 4)]) (fun q => way.length - q.1) (0, true)
        ⟨Nat.zero_le _, by simp⟩ ⟨rfl, rfl, rfl, rfl, rfl, rfl, rfl, rfl, trivial⟩ (by repeat (first | exact List.Sublist.refl _ | apply List.Sublist.cons_cons | apply List.Sublist.cons | exact List.nil_sublist _)) ?_
      rintro ⟨j, al⟩ ⟨hj1, hal⟩
      simp only at hj1 hal ⊢
      with_reducible repeat refine xc_seq ?_
      with_reducible refine xc_region ?_
      refine xo_mv rfl rfl rfl ?_
      refine xo_mv rfl rfl rfl ?_
      refine xo_mv rfl rfl rfl ?_
      refine xo_ia T_ rfl rfl rfl rfl rfl ⟨by omega, by omega⟩ rfl ?_
      refine xo_faR T_ rfl rfl rfl rfl rfl ?_
      refine xo_loadR0 T_ rfl rfl rfl (by first | assumption | exact RO.fld (by assumption) rfl) rfl ?_
      refine xo_mv rfl rfl rfl ?_
      refine xo_ia T_ rfl rfl rfl rfl rfl ⟨by omega, by omega⟩ rfl ?_
      refine xo_loadR0 T_ rfl rfl rfl (by first | assumption | exact RO.fld (by assumption) rfl) rfl ?_
      refine xo_len T_ rfl rfl rfl rfl ?_
      refine xo_lss rfl rfl rfl rfl ?_
      with_reducible refine xo_nil ?_
      with_reducible repeat (first | refine xq_then ?_ | refine xq_blockN ?_ | refine xq_scopeN ?_)
      with_reducible repeat refine xc_seq ?_
      refine xc_cond rfl (fun h => ?_) (fun h => ?_)
      · have hjl : j < way.length := by have := of_decide_eq_true h; omega
        obtain ⟨ad4, rfl, r4⟩ := int_at hw3 j hjl
        rw [allIn_at bs way j hjl] at hal
        obtain ⟨a, ha1, ha2, ha3⟩ := hkw _ (getD_mem way 0 j hjl)
        with_reducible refine xc_skip ?_
        with_reducible repeat (first | refine xq_then ?_ | refine xq_blockN ?_ | refine xq_scopeN ?_)
        with_reducible repeat refine xc_seq ?_
        with_reducible refine xc_block ?_
        cases hb : al
        · subst hb
          with_reducible repeat refine xc_seq ?_
          with_reducible refine xc_region ?_
          refine xo_mv rfl rfl rfl ?_
          refine xo_mv rfl rfl rfl ?_
          first
            | refine xo_not rfl rfl ?_
            | (refine xo_mv rfl rfl rfl ?_)
          first
            | refine xo_not rfl rfl ?_
            | (refine xo_mv rfl rfl rfl ?_)
          first
            | refine xo_not rfl rfl ?_
            | (refine xo_mv rfl rfl rfl ?_)
          first
            | refine xo_not rfl rfl ?_
            | (refine xo_mv rfl rfl rfl ?_)
          first
            | refine xo_not rfl rfl ?_
            | (refine xo_ia T_ rfl rfl rfl rfl rfl ⟨by omega, by omega⟩ rfl ?_)
          first
            | refine xo_not rfl rfl ?_
            | (refine xo_faR T_ rfl rfl rfl rfl rfl ?_)
          first
            | refine xo_not rfl rfl ?_
            | (refine xo_loadR0 T_ rfl rfl rfl (by first | assumption | exact RO.fld (by assumption) rfl) rfl ?_)
          first
            | refine xo_not rfl rfl ?_
            | (refine xo_mv rfl rfl rfl ?_)
          first
            | refine xo_not rfl rfl ?_
            | (refine xo_ia T_ rfl rfl rfl rfl rfl ⟨by omega, by omega⟩ rfl ?_)
          first
            | refine xo_not rfl rfl ?_
            | (refine xo_loadR0 T_ rfl rfl rfl (by first | assumption | exact RO.fld (by assumption) rfl) rfl ?_)
          first
            | refine xo_not rfl rfl ?_
            | (refine xo_mv rfl rfl rfl ?_)
          first
            | refine xo_not rfl rfl ?_
            | (refine xo_ia T_ rfl rfl rfl rfl rfl ⟨by omega, by omega⟩ rfl ?_)
          first
            | refine xo_not rfl rfl ?_
            | (refine xo_loadR0 T_ rfl rfl rfl (by first | assumption | exact RO.fld (by assumption) rfl) rfl ?_)
          first
            | refine xo_not rfl rfl ?_
            | (fail "NO RULE: Op.call -15")
          first
            | refine xo_not rfl rfl ?_
            | (refine xo_ia T_ rfl rfl rfl rfl rfl ⟨by omega, by omega⟩ rfl ?_)
          first
            | refine xo_not rfl rfl ?_
            | (refine xo_loadR0 T_ rfl rfl rfl (by first | assumption | exact RO.fld (by assumption) rfl) rfl ?_)
          first | refine xo_pickT rfl rfl rfl rfl ?_ | refine xo_pickF rfl rfl rfl rfl ?_
          refine xo_asg rfl rfl rfl ?_
          with_reducible refine xo_nil ?_
          with_reducible repeat (first | refine xq_then ?_ | refine xq_blockN ?_ | refine xq_scopeN ?_)
          with_reducible repeat refine xc_seq ?_
          with_reducible refine xc_region ?_
          refine xo_mv rfl rfl rfl ?_
          refine xo_add rfl rfl rfl (by omega) rfl ?_
          refine xo_asg rfl rfl rfl ?_
          with_reducible refine xo_nil ?_
          with_reducible repeat (first | refine xq_then ?_ | refine xq_blockN ?_ | refine xq_scopeN ?_)
          exact xq_again _ _ _ _ _ (j + 1, false) ⟨by omega, by rw [hal]; simp⟩ (by first | omega | (simp only; omega)) ⟨rfl, rfl, rfl, rfl, rfl, rfl, rfl, rfl, trivial⟩ (by repeat (first | exact List.Sublist.refl _ | apply List.Sublist.cons_cons | apply List.Sublist.cons | exact List.nil_sublist _))
        · subst hb
          with_reducible repeat refine xc_seq ?_
          with_reducible refine xc_region ?_
          refine xo_mv rfl rfl rfl ?_
          refine xo_mv rfl rfl rfl ?_
          first
            | refine xo_not rfl rfl ?_
            | (refine xo_mv rfl rfl rfl ?_)
          first
            | refine xo_not rfl rfl ?_
            | (refine xo_mv rfl rfl rfl ?_)
          first
            | refine xo_not rfl rfl ?_
            | (refine xo_mv rfl rfl rfl ?_)
          first
            | refine xo_not rfl rfl ?_
            | (refine xo_mv rfl rfl rfl ?_)
          first
            | refine xo_not rfl rfl ?_
            | (refine xo_ia T_ rfl rfl rfl rfl rfl ⟨by omega, by omega⟩ rfl ?_)
          first
            | refine xo_not rfl rfl ?_
            | (refine xo_faR T_ rfl rfl rfl rfl rfl ?_)
          first
            | refine xo_not rfl rfl ?_
            | (refine xo_loadR0 T_ rfl rfl rfl (by first | assumption | exact RO.fld (by assumption) rfl) rfl ?_)
          first
            | refine xo_not rfl rfl ?_
            | (refine xo_mv rfl rfl rfl ?_)
          first
            | refine xo_not rfl rfl ?_
            | (refine xo_ia T_ rfl rfl rfl rfl rfl ⟨by omega, by omega⟩ rfl ?_)
          first
            | refine xo_not rfl rfl ?_
            | (refine xo_loadR0 T_ rfl rfl rfl (by first | assumption | exact RO.fld (by assumption) rfl) rfl ?_)
          first
            | refine xo_not rfl rfl ?_
            | (refine xo_mv rfl rfl rfl ?_)
          first
            | refine xo_not rfl rfl ?_
            | (refine xo_ia T_ rfl rfl rfl rfl rfl ⟨by omega, by omega⟩ rfl ?_)
          first
            | refine xo_not rfl rfl ?_
            | (refine xo_loadR0 T_ rfl rfl rfl (by first | assumption | exact RO.fld (by assumption) rfl) rfl ?_)
          first
            | refine xo_not rfl rfl ?_
            | (refine xo_callB (v := .int .i64 (a : Int)) (fs := []) (cs := []) rfl rfl rfl at_enters rfl (fun w1 hw1 => by rw [← ha2]; exact at_calls _ _ _ _ w1 (Kd.C_below hr hw1.kx.below)) ?_)
          first
            | refine xo_not rfl rfl ?_
            | (refine xo_ia T_ rfl rfl rfl rfl rfl ⟨by omega, by omega⟩ rfl ?_)
          first
            | refine xo_not rfl rfl ?_
            | (refine xo_loadI T_ rfl rfl rfl (by repeat (first | exact List.Mem.head _ | apply List.Mem.tail | apply List.mem_append_right)) (by rw [fill_load ha1, ha3]) rfl ?_)
          first | refine xo_pickT rfl rfl rfl rfl ?_ | refine xo_pickF rfl rfl rfl rfl ?_
          refine xo_asg rfl rfl rfl ?_
          with_reducible refine xo_nil ?_
          with_reducible repeat (first | refine xq_then ?_ | refine xq_blockN ?_ | refine xq_scopeN ?_)
          with_reducible repeat refine xc_seq ?_
          with_reducible refine xc_region ?_
          refine xo_mv rfl rfl rfl ?_
          refine xo_add rfl rfl rfl (by omega) rfl ?_
          refine xo_asg rfl rfl rfl ?_
          with_reducible refine xo_nil ?_
          with_reducible repeat (first | refine xq_then ?_ | refine xq_blockN ?_ | refine xq_scopeN ?_)
          exact xq_again _ _ _ _ _ (j + 1, decide (way.getD j 0 ∈ bs)) ⟨by omega, by rw [hal, Bool.true_and]⟩ (by first | omega | (simp only; omega)) ⟨rfl, rfl, rfl, rfl, rfl, rfl, rfl, rfl, trivial⟩ (by repeat (first | exact List.Sublist.refl _ | apply List.Sublist.cons_cons | apply List.Sublist.cons | exact List.nil_sublist _))
      · have hge : ¬ j < way.length := by have := of_decide_eq_false h; omega
        rw [List.drop_of_length_le (by omega)] at hal
        have hal2 : allIn bs way = al := by rw [hal]; simp [allIn]
        with_reducible refine xc_exit ?_
        with_reducible repeat (first | refine xq_blockX ?_ | refine xq_thenE ?_ | refine xq_blockE rfl ?_ | refine xq_scopeE ?_)
        with_reducible repeat (first | refine xq_then ?_ | refine xq_blockN ?_ | refine xq_scopeN ?_)
        cases hb : an
        all_goals
          subst hb
          with_reducible repeat refine xc_seq ?_
          with_reducible refine xc_region ?_
          refine xo_mv rfl rfl rfl ?_
          refine xo_mv rfl rfl rfl ?_
          first
            | refine xo_not rfl rfl ?_
            | (refine xo_mv rfl rfl rfl ?_)
          first | refine xo_pickT rfl rfl rfl rfl ?_ | refine xo_pickF rfl rfl rfl rfl ?_
          refine xo_asg rfl rfl rfl ?_
          with_reducible refine xo_nil ?_
          with_reducible repeat (first | refine xq_then ?_ | refine xq_blockN ?_ | refine xq_scopeN ?_)
          with_reducible repeat refine xc_seq ?_
          with_reducible refine xc_region ?_
          refine xo_mv rfl rfl rfl ?_
          refine xo_add rfl rfl rfl (by omega) rfl ?_
          refine xo_asg rfl rfl rfl ?_
          with_reducible refine xo_nil ?_
          with_reducible repeat (first | refine xq_then ?_ | refine xq_blockN ?_ | refine xq_scopeN ?_)
        · exact xq_again _ _ _ _ _ (i + 1, al) ⟨by omega, by rw [hst, hal2, Bool.false_or]⟩ (by first | omega | (simp only; omega)) ⟨rfl, rfl, rfl, rfl, rfl, rfl, trivial⟩ (by repeat (first | exact List.Sublist.refl _ | apply List.Sublist.cons_cons | apply List.Sublist.cons | exact List.nil_sublist _))
        · exact xq_again _ _ _ _ _ (i + 1, true) ⟨by omega, by rw [hst]; simp⟩ (by first | omega | (simp only; omega)) ⟨rfl, rfl, rfl, rfl, rfl, rfl, trivial⟩ (by repeat (first | exact List.Sublist.refl _ | apply List.Sublist.cons_cons | apply List.Sublist.cons | exact List.nil_sublist _))
    · have hge : ¬ i < x.f2.length := by have := of_decide_eq_false h; omega
      rw [List.drop_of_length_le (by omega)] at hst
      simp only [List.any_nil, Bool.or_false] at hst
      rw [hst] at hb1
      with_reducible refine xc_exit ?_
      with_reducible repeat (first | refine xq_blockX ?_ | refine xq_thenE ?_ | refine xq_blockE rfl ?_ | refine xq_scopeE ?_)
      with_reducible repeat (first | refine xq_then ?_ | refine xq_blockN ?_ | refine xq_scopeN ?_)
      cases hb : an
      all_goals
        subst hb
        with_reducible repeat refine xc_seq ?_
        with_reducible refine xc_region ?_
        refine xo_mv rfl rfl rfl ?_
        refine xo_mv rfl rfl rfl ?_
        refine xo_mv rfl rfl rfl ?_
        refine xo_mv rfl rfl rfl ?_
        first
          | refine xo_not rfl rfl ?_
          | (refine xo_mv rfl rfl rfl ?_)
        first
          | refine xo_not rfl rfl ?_
          | (refine xo_mv rfl rfl rfl ?_)
        first
          | refine xo_not rfl rfl ?_
          | (refine xo_ia T_ rfl rfl rfl rfl rfl ⟨by omega, by omega⟩ rfl ?_)
        first
          | refine xo_not rfl rfl ?_
          | (refine xo_loadR0 T_ rfl rfl rfl (by first | assumption | exact RO.fld (by assumption) rfl) rfl ?_)
        first
          | refine xo_not rfl rfl ?_
          | (refine xo_notOp rfl rfl rfl ?_)
        first | refine xo_pickT rfl rfl rfl rfl ?_ | refine xo_pickF rfl rfl rfl rfl ?_
        refine xo_ia T_ rfl rfl rfl rfl rfl ⟨by omega, by omega⟩ rfl ?_
        refine xo_storeI T_ rfl rfl rfl rfl (by repeat (first | exact List.Mem.head _ | apply List.Mem.tail | apply List.mem_append_right)) rfl rfl (fill_lt hlt) (fill_upd (by rw [hb1]; rfl)) rfl ?_
        with_reducible refine xo_nil ?_
        with_reducible repeat (first | refine xq_then ?_ | refine xq_blockN ?_ | refine xq_scopeN ?_)
        with_reducible repeat refine xc_seq ?_
        with_reducible refine xc_region ?_
        refine xo_mv rfl rfl rfl ?_
        refine xo_add rfl rfl rfl (by omega) rfl ?_
        refine xo_asg rfl rfl rfl ?_
        with_reducible refine xo_nil ?_
        with_reducible repeat (first | refine xq_then ?_ | refine xq_blockN ?_ | refine xq_scopeN ?_)
        exact xq_again _ _ _ _ _ (k + 1) (by omega) (by omega) ⟨rfl, rfl, rfl, rfl, trivial⟩ (by repeat (first | exact List.Sublist.refl _ | apply List.Sublist.cons_cons | apply List.Sublist.cons | exact List.nil_sublist _))
  · have hge : ¬ k < r.length := by have := of_decide_eq_false h; omega
    have hkk : k = r.length := by omega
    subst hkk
    with_reducible refine xc_exit ?_
    with_reducible repeat (first | refine xq_blockX ?_ | refine xq_thenE ?_ | refine xq_blockE rfl ?_ | refine xq_scopeE ?_)
    with_reducible repeat (first | refine xq_then ?_ | refine xq_blockN ?_ | refine xq_scopeN ?_)
    with_reducible repeat refine xc_seq ?_
    with_reducible refine xc_region ?_
    refine xo_mv rfl rfl rfl ?_
    refine xo_asg rfl rfl rfl ?_
    with_reducible refine xo_nil ?_
    with_reducible repeat (first | refine xq_then ?_ | refine xq_blockN ?_ | refine xq_scopeN ?_)
    with_reducible repeat refine xc_seq ?_
    with_reducible refine xc_ret ?_
    with_reducible repeat (first | refine xq_thenR ?_ | refine xq_blockR ?_ | refine xq_scopeR ?_)
    refine xq_ret1 rfl rfl fun w' hw => ?_
    obtain ⟨o, h1, h2⟩ := hw.bl _ (List.Mem.head _)
    refine ⟨b5, o, rfl, hw.kx.below, hw.own (List.Mem.head _), h1, ?_⟩
    rw [inB, ← fill_all (fun i => decide (i ∈ holdsF r G))]
    exact h2
theorem hold_enters : ∀ args w, (callFunc 25 args).run Try.prog w = .ok (.enter 25 args) w := enters_of Try.func25 (by kernel_rfl) rfl
end Go.Proofs.Ytcmepdamemnbkaa
namespace Go.Proofs.Ytcmepdamemnbkaa
open Go.RowKit Go.Proofs.YtcmepdamemnbkaaW.PrintWords
set_option linter.unusedVariables false
set_option linter.unusedSimpArgs false
def idsF (r : List RecT) (p : Int → Bool) : List Int := (r.filter fun x => p x.f0).map (·.f0)
theorem idsF_len (r : List RecT) (p : Int → Bool) : (idsF r p).length ≤ r.length := by
  rw [idsF, List.length_map]
  exact List.length_filter_le _ _
theorem idsF_take (r : List RecT) (p : Int → Bool) (k : Nat) (hk : k < r.length) : idsF (r.take (k + 1)) p = idsF (r.take k) p ++ if p (idAt r k) then [idAt r k] else [] := by
  rw [List.take_succ_eq_append_getElem hk, idsF, List.filter_append, List.map_append]
  have : idAt r k = r[k].f0 := by simp [idAt, List.getD_eq_getElem?_getD, List.getElem?_eq_getElem hk]
  rw [this]
  by_cases h : p r[k].f0 = true
  · simp [h, idsF]
  · simp [h, idsF]
theorem idsF_holdsL {G : List Int} {H : List Int} : ∀ (r : List RecT) (bs : List Int), SortedIds r → (∀ i, i < r.length → (idAt r i ∈ H ↔ idAt r i ∈ holdsL G bs r)) → idsF r (fun n => decide (n ∈ H)) = holdsL G bs r
  | [], _, _, _ => rfl
  | x :: r, bs, hs, h => by
    have hs2 : SortedIds r := fun j hj => by
      have := hs (j + 1) (by simpa using hj)
      simpa [idAt] using this
    have h0 := h 0 (by simp)
    have hx : idAt (x :: r) 0 = x.f0 := rfl
    rw [hx] at h0
    have hi : ∀ i, idAt (x :: r) (i + 1) = idAt r i := fun i => by simp [idAt]
    have hne : ∀ i, i < r.length → idAt r i ≠ x.f0 := fun i hil e => by
      have := sorted_inj hs (i := i + 1) (j := 0) (by simpa using hil) (by simp) (by rw [hi, hx, e])
      omega
    have hno : ∀ bs, x.f0 ∉ holdsL G bs r := fun bs hm => by
      obtain ⟨i, h1, h2⟩ := holdsL_mem r bs _ hm
      exact hne i h1 h2
    unfold holdsL at h0 h ⊢
    split
    · rename_i hc
      rw [if_pos hc] at h0
      have ih := idsF_holdsL (H := H) r bs hs2 fun i hil => by
        have := h (i + 1) (by simpa using hil)
        rwa [if_pos hc, hi] at this
      rw [← ih, idsF, List.filter_cons, if_neg (by simp; exact fun q => hno _ (h0.1 q))]
      rfl
    · rename_i hc
      rw [if_neg hc] at h0
      have ih := idsF_holdsL (H := H) r (insN x.f0 bs) hs2 fun i hil => by
        have := h (i + 1) (by simpa using hil)
        rw [if_neg hc, hi, List.mem_cons] at this
        rw [this]
        exact ⟨fun q => q.resolve_left (hne i hil), .inr⟩
      rw [← ih, idsF, List.filter_cons, if_pos (by simp; exact h0.2 (List.mem_cons_self ..))]
      rfl
theorem ids_holds {r : List RecT} (hs : SortedIds r) (G : List Int) : idsF r (fun n => decide (n ∈ holdsF r G)) = holdsF r G := idsF_holdsL r [] hs fun _ _ => Iff.rfl
def pB (r : List RecT) (p : Int → Bool) : List Bool := r.map fun x => p x.f0
theorem pB_get {r : List RecT} {p : Int → Bool} {k : Nat} (hk : k < r.length) : (pB r p).getD k false = p (idAt r k) := by
  simp [pB, idAt, List.getD_eq_getElem?_getD, List.getElem?_eq_getElem hk]
set_option maxHeartbeats 16000000 in
theorem ids_calls (A B : Option Addr) (c c' : Nat) (r : List RecT) (p : Int → Bool) (w : World) (hr : Kd.C recK w A r.length r) (hg : Kd.C Kd.bool w B r.length (pB r p)) (hlen : r.length ≤ 1000000) :
    Calls Try.prog 24 #[.slice A r.length c, .slice B r.length c'] w fun e w' => ∃ rr : RowR, e = .returned (valR rr (idsF r p).length) ∧ RowAt 3 w.heap.size w' rr (idsF r p) ∧ Below w.heap.size w w' := by
  refine x_calls (X := XNone) Try.func24 rfl rfl rfl ?_
  with_reducible repeat refine xc_seq ?_
  with_reducible refine xc_region ?_
  refine xo_asg rfl rfl rfl ?_
  with_reducible refine xo_nil ?_
  with_reducible repeat (first | refine xq_then ?_ | refine xq_blockN ?_ | refine xq_scopeN ?_)
  with_reducible repeat refine xc_seq ?_
  with_reducible refine xc_region ?_
  refine xo_asg rfl rfl rfl ?_
  with_reducible refine xo_nil ?_
  with_reducible repeat (first | refine xq_then ?_ | refine xq_blockN ?_ | refine xq_scopeN ?_)
  with_reducible repeat refine xc_seq ?_
  with_reducible refine xc_region ?_
  refine xo_asg rfl rfl rfl ?_
  with_reducible refine xo_nil ?_
  with_reducible repeat (first | refine xq_then ?_ | refine xq_blockN ?_ | refine xq_scopeN ?_)
  with_reducible repeat refine xc_seq ?_
  with_reducible refine xc_block ?_
  refine xc_loop (γ := Nat × RowR) (fun q => q.1 ≤ r.length ∧ (q.2 = none → idsF (r.take q.1) p = [])) (fun q => [(0, .slice A r.length c), (1, .slice B r.length c'), (5, valR q.2 (idsF (r.take q.1) p).length), (6, .int .i64 (q.1 : Int))])
    (fun q => hpR 3 1 q.2 (idsF (r.take q.1) p).length ((idsF (r.take q.1) p).map (.int .i64)) ++ []) (fun q => r.length - q.1) (0, none) ⟨Nat.zero_le _, fun _ => rfl⟩ ⟨rfl, rfl, rfl, rfl, trivial⟩ (List.nil_sublist _) ?_
  rintro ⟨k, rr⟩ ⟨hk1, hrr⟩
  simp only at hk1 hrr ⊢
  with_reducible repeat refine xc_seq ?_
  with_reducible refine xc_region ?_
  refine xo_mv rfl rfl rfl ?_
  refine xo_mv rfl rfl rfl ?_
  refine xo_len T_ rfl rfl rfl rfl ?_
  refine xo_lss rfl rfl rfl rfl ?_
  with_reducible refine xo_nil ?_
  with_reducible repeat (first | refine xq_then ?_ | refine xq_blockN ?_ | refine xq_scopeN ?_)
  with_reducible repeat refine xc_seq ?_
  refine xc_cond rfl (fun h => ?_) (fun h => ?_)
  · have hlt : k < r.length := by have := of_decide_eq_true h; omega
    have hll : (idsF (r.take k) p).length ≤ 1000000 := by have := idsF_len (r.take k) p; have := List.length_take_le k r; omega
    obtain ⟨ad, A2, c2, rfl, r1, hc2, hw2⟩ := rec_at hr k hlt
    obtain ⟨bd, rfl, r2⟩ := bool_at hg k hlt
    rw [pB_get hlt] at r2
    have htk := idsF_take r p k hlt
    have hid : idAt r k = (r.getD k zRec).f0 := rfl
    generalize r.getD k zRec = x at *
    rw [hid] at htk r2
    with_reducible refine xc_skip ?_
    with_reducible repeat (first | refine xq_then ?_ | refine xq_blockN ?_ | refine xq_scopeN ?_)
    with_reducible repeat refine xc_seq ?_
    with_reducible refine xc_block ?_
    with_reducible repeat refine xc_seq ?_
    with_reducible refine xc_region ?_
    refine xo_mv rfl rfl rfl ?_
    refine xo_mv rfl rfl rfl ?_
    refine xo_ia T_ rfl rfl rfl rfl rfl ⟨by omega, by omega⟩ rfl ?_
    refine xo_loadR0 T_ rfl rfl rfl (by first | assumption | exact RO.fld (by assumption) rfl) rfl ?_
    with_reducible refine xo_nil ?_
    with_reducible repeat (first | refine xq_then ?_ | refine xq_blockN ?_ | refine xq_scopeN ?_)
    with_reducible repeat refine xc_seq ?_
    refine xc_cond rfl (fun hp => ?_) (fun hp => ?_)
    · rw [hp, if_pos rfl] at htk
      with_reducible repeat refine xc_seq ?_
      with_reducible refine xc_region ?_
      refine xo_mv rfl rfl rfl ?_
      refine xo_mv rfl rfl rfl ?_
      refine xo_mv rfl rfl rfl ?_
      refine xo_ia T_ rfl rfl rfl rfl rfl ⟨by omega, by omega⟩ rfl ?_
      refine xo_faR T_ rfl rfl rfl rfl rfl ?_
      refine xo_loadR0 T_ rfl rfl rfl (by first | assumption | exact RO.fld (by assumption) rfl) rfl ?_
      refine xo_bs1 T_ rfl rfl rfl rfl rfl rfl rfl rfl (fun b23 => ?_)
      refine xo_app TR_ rfl rfl rfl rfl rfl rfl rfl rfl (by simp) rfl rfl (fun h => by rw [hrr h]; rfl) (by omega) rfl rfl (fun r' hr' => ?_)
      refine xo_asg rfl rfl rfl ?_
      with_reducible refine xo_nil ?_
      with_reducible repeat (first | refine xq_then ?_ | refine xq_blockN ?_ | refine xq_scopeN ?_)
      with_reducible repeat refine xc_seq ?_
      with_reducible refine xc_region ?_
      refine xo_mv rfl rfl rfl ?_
      refine xo_add rfl rfl rfl (by omega) rfl ?_
      refine xo_asg rfl rfl rfl ?_
      with_reducible refine xo_nil ?_
      with_reducible repeat (first | refine xq_then ?_ | refine xq_blockN ?_ | refine xq_scopeN ?_)
      refine xq_again _ _ _ _ _ (k + 1, r') ⟨hlt, fun h => absurd h hr'⟩ (by first | omega | (simp only; omega)) ⟨rfl, rfl, by rw [htk, List.length_append]; rfl, rfl, trivial⟩ ?_
      simp only [htk, List.length_append, List.map_append, List.append_nil]
      exact List.Sublist.refl _
    · rw [hp, if_neg (by simp), List.append_nil] at htk
      with_reducible refine xc_skip ?_
      with_reducible repeat (first | refine xq_then ?_ | refine xq_blockN ?_ | refine xq_scopeN ?_)
      with_reducible repeat refine xc_seq ?_
      with_reducible refine xc_region ?_
      refine xo_mv rfl rfl rfl ?_
      refine xo_add rfl rfl rfl (by omega) rfl ?_
      refine xo_asg rfl rfl rfl ?_
      with_reducible refine xo_nil ?_
      with_reducible repeat (first | refine xq_then ?_ | refine xq_blockN ?_ | refine xq_scopeN ?_)
      refine xq_again _ _ _ _ _ (k + 1, rr) ⟨hlt, fun h => by rw [htk]; exact hrr h⟩ (by first | omega | (simp only; omega)) ⟨rfl, rfl, by rw [htk]; rfl, rfl, trivial⟩ ?_
      simp only [htk]
      exact List.Sublist.refl _
  · have hge : ¬ k < r.length := by have := of_decide_eq_false h; omega
    rw [List.take_of_length_le (by omega)]
    rw [List.take_of_length_le (by omega)] at hrr
    with_reducible refine xc_exit ?_
    with_reducible repeat (first | refine xq_blockX ?_ | refine xq_thenE ?_ | refine xq_blockE rfl ?_ | refine xq_scopeE ?_)
    with_reducible repeat (first | refine xq_then ?_ | refine xq_blockN ?_ | refine xq_scopeN ?_)
    with_reducible repeat refine xc_seq ?_
    with_reducible refine xc_region ?_
    refine xo_mv rfl rfl rfl ?_
    refine xo_asg rfl rfl rfl ?_
    with_reducible refine xo_nil ?_
    with_reducible repeat (first | refine xq_then ?_ | refine xq_blockN ?_ | refine xq_scopeN ?_)
    with_reducible repeat refine xc_seq ?_
    with_reducible refine xc_ret ?_
    with_reducible repeat (first | refine xq_thenR ?_ | refine xq_blockR ?_ | refine xq_scopeR ?_)
    exact xq_ret1 rfl rfl fun w' hw => ⟨rr, rfl, RowAt.of (by rwa [List.append_nil] at hw) hrr, hw.kx.below⟩
theorem ids_enters : ∀ args w, (callFunc 24 args).run Try.prog w = .ok (.enter 24 args) w := enters_of Try.func24 (by kernel_rfl) rfl
end Go.Proofs.Ytcmepdamemnbkaa
namespace Go.Proofs.Ytcmepdamemnbkaa
open Go.RowKit Go.Proofs.YtcmepdamemnbkaaW.PrintWords
set_option linter.unusedVariables false
set_option linter.unusedSimpArgs false
theorem goneL_mem {l : List LetT} {day : Int} : ∀ (r : List RecT) (acc : List Int) (n : Int), n ∈ goneL l day acc r ↔ n ∈ acc ∨ ∃ x ∈ r, x.f0 = n ∧ goneB l day x.f0 = true
  | [], acc, n => by simp [goneL]
  | x :: r, acc, n => by
    rw [goneL, goneL_mem r]
    by_cases h : goneB l day x.f0 = true
    · rw [if_pos h, mem_insN]
      constructor
      · rintro ((rfl | h1) | ⟨y, h1, h2⟩)
        · exact .inr ⟨x, by simp, rfl, h⟩
        · exact .inl h1
        · exact .inr ⟨y, by simp [h1], h2⟩
      · rintro (h1 | ⟨y, h1, h2, h3⟩)
        · exact .inl (.inr h1)
        · rcases List.mem_cons.1 h1 with rfl | h1
          · exact .inl (.inl h2.symm)
          · exact .inr ⟨y, h1, h2, h3⟩
    · rw [if_neg h]
      constructor
      · rintro (h1 | ⟨y, h1, h2⟩)
        · exact .inl h1
        · exact .inr ⟨y, by simp [h1], h2⟩
      · rintro (h1 | ⟨y, h1, h2, h3⟩)
        · exact .inl h1
        · rcases List.mem_cons.1 h1 with rfl | h1
          · exact absurd h3 h
          · exact .inr ⟨y, h1, h2, h3⟩
theorem goneBs_in (r : List RecT) (l : List LetT) (day : Int) : goneBs r l day = inB r (goneF r l day) := by
  unfold goneBs inB
  refine List.map_congr_left fun x hx => ?_
  rw [Bool.eq_iff_iff, decide_eq_true_eq, goneF, goneL_mem]
  constructor
  · intro h; exact .inr ⟨x, hx, rfl, h⟩
  · rintro (h | ⟨y, _, h1, h2⟩)
    · cases h
    · rwa [h1] at h2
theorem inB_len (r : List RecT) (H : List Int) : (inB r H).length = r.length := by simp [inB]
theorem C_inB {w0 : World} {X : Nat → Prop} {η : Hp} {w : World} (hw : WOK w0 X η w) {b : Nat} {wr : Bool} {r : List RecT} {H : List Int} {t : TypeId} (hm : (b, wr, cel ((inB r H).map .bool) t) ∈ η) (hl : r.length ≤ 1000000) : Kd.C Kd.bool w (some ⟨b, 0, none⟩) r.length (inB r H) := by
  have := C_celB hw hm (by rw [inB_len]; omega)
  rwa [inB_len] at this
theorem check_zero {r : List RecT} {l : List LetT} (h : checkF r l = 0) : recordedF r = true := by
  unfold checkF at h
  split at h
  · assumption
  · cases h
set_option maxHeartbeats 16000000 in
theorem refHolds_calls (A B : Option Addr) (c c' : Nat) (r : List RecT) (l : List LetT) (day : Int) (w : World) (hr : Kd.C recK w A r.length r) (hl : Kd.C letK w B l.length l) (hk : Bytes r) (hkl : BytesL l) :
    Calls Try.prog 8 #[.slice A r.length c, .slice B l.length c', .int .i64 day] w fun e w' => ∃ rr : RowR, e = .returned (.tuple #[valR rr (holdsR r l day).length, .int .i64 (openF r l day [])]) ∧ RowAt 3 w.heap.size w' rr (holdsR r l day) ∧ Below w.heap.size w w' := by
  refine x_calls (X := XNone) Try.func8 rfl rfl rfl ?_
  with_reducible repeat refine xc_seq ?_
  with_reducible refine xc_region ?_
  refine xo_asg rfl rfl rfl ?_
  refine xo_asg rfl rfl rfl ?_
  with_reducible refine xo_nil ?_
  with_reducible repeat (first | refine xq_then ?_ | refine xq_blockN ?_ | refine xq_scopeN ?_)
  with_reducible repeat refine xc_seq ?_
  with_reducible refine xc_region ?_
  refine xo_mv rfl rfl rfl ?_
  refine xo_mv rfl rfl rfl ?_
  refine xo_callB (fs := []) (cs := []) rfl rfl rfl refCheck_enters rfl (fun w1 hw1 => refCheck_calls A B c c' r l w1 (Kd.C_below hr hw1.kx.below) (Kd.C_below hl hw1.kx.below) hk hkl) ?_
  refine xo_asg rfl rfl rfl ?_
  with_reducible refine xo_nil ?_
  with_reducible repeat (first | refine xq_then ?_ | refine xq_blockN ?_ | refine xq_scopeN ?_)
  with_reducible repeat refine xc_seq ?_
  with_reducible refine xc_region ?_
  refine xo_mv rfl rfl rfl ?_
  refine xo_neq rfl rfl rfl rfl ?_
  with_reducible refine xo_nil ?_
  with_reducible repeat (first | refine xq_then ?_ | refine xq_blockN ?_ | refine xq_scopeN ?_)
  with_reducible repeat refine xc_seq ?_
  refine xc_cond rfl (fun hc => ?_) (fun hc => ?_)
  · have hc : checkF r l ≠ 0 := by simpa using hc
    have ho : openF r l day [] = checkF r l := by rw [openF, if_neg hc]
    with_reducible repeat refine xc_seq ?_
    with_reducible refine xc_region ?_
    refine xo_mv rfl rfl rfl ?_
    refine xo_asg rfl rfl rfl ?_
    refine xo_asg rfl rfl rfl ?_
    with_reducible refine xo_nil ?_
    with_reducible repeat (first | refine xq_then ?_ | refine xq_blockN ?_ | refine xq_scopeN ?_)
    with_reducible repeat refine xc_seq ?_
    with_reducible refine xc_ret ?_
    with_reducible repeat (first | refine xq_thenR ?_ | refine xq_blockR ?_ | refine xq_scopeR ?_)
    refine xq_ret2 rfl rfl rfl fun w' hw => ⟨none, by rw [holdsR, ho, if_neg hc]; rfl, ?_, hw.kx.below⟩
    rw [holdsR, ho, if_neg hc]
    exact ⟨fun _ => rfl, fun p hp => by cases hp⟩
  have hc : checkF r l = 0 := by simpa using hc
  have hok := check_zero hc
  have hlen := recorded_len hok
  with_reducible refine xc_skip ?_
  with_reducible repeat (first | refine xq_then ?_ | refine xq_blockN ?_ | refine xq_scopeN ?_)
  with_reducible repeat refine xc_seq ?_
  with_reducible refine xc_region ?_
  refine xo_mv rfl rfl rfl ?_
  refine xo_callB (fs := []) (cs := []) rfl rfl rfl within_enters rfl (fun w1 hw1 => within_calls _ _ _ w1) ?_
  refine xo_notOp rfl rfl rfl ?_
  with_reducible refine xo_nil ?_
  with_reducible repeat (first | refine xq_then ?_ | refine xq_blockN ?_ | refine xq_scopeN ?_)
  with_reducible repeat refine xc_seq ?_
  refine xc_cond rfl (fun hd => ?_) (fun hd => ?_)
  · simp only [Bool.not_eq_true'] at hd
    have ho : openF r l day [] = 2 := by rw [openF, if_pos hc, hd]; rfl
    with_reducible repeat refine xc_seq ?_
    with_reducible refine xc_region ?_
    refine xo_asg rfl rfl rfl ?_
    refine xo_asg rfl rfl rfl ?_
    with_reducible refine xo_nil ?_
    with_reducible repeat (first | refine xq_then ?_ | refine xq_blockN ?_ | refine xq_scopeN ?_)
    with_reducible repeat refine xc_seq ?_
    with_reducible refine xc_ret ?_
    with_reducible repeat (first | refine xq_thenR ?_ | refine xq_blockR ?_ | refine xq_scopeR ?_)
    refine xq_ret2 rfl rfl rfl fun w' hw => ⟨none, by rw [holdsR, ho]; rfl, ?_, hw.kx.below⟩
    rw [holdsR, ho]
    exact ⟨fun _ => rfl, fun p hp => by cases hp⟩
  simp only [Bool.not_eq_false'] at hd
  have ho : openF r l day [] = 0 := by rw [openF, if_pos hc, hd]; rfl
  have hR : holdsR r l day = idsF r (fun n => decide (n ∈ holdsF r (goneF r l day))) := by rw [holdsR, if_pos ho, ids_holds (sorted_of hok)]
  with_reducible refine xc_skip ?_
  with_reducible repeat (first | refine xq_then ?_ | refine xq_blockN ?_ | refine xq_scopeN ?_)
  with_reducible repeat refine xc_seq ?_
  with_reducible refine xc_region ?_
  refine xo_mv rfl rfl rfl ?_
  refine xo_mv rfl rfl rfl ?_
  refine xo_mv rfl rfl rfl ?_
  refine xo_mv rfl rfl rfl ?_
  refine xo_mv rfl rfl rfl ?_
  refine xo_call (fs := []) (cs := []) rfl rfl rfl gone_enters rfl (fun w1 hw1 => (gone_calls A B c c' r l day w1 (Kd.C_below hr hw1.kx.below) (Kd.C_below hl hw1.kx.below) (by omega) hkl).mono ?_)
  rintro e w2 ⟨bg, og, rfl, hb, hge, h1, h2⟩
  rw [goneBs_in] at h2
  refine ⟨_, _, rfl, hw1.more hb hge h1 h2, ?_⟩
  refine xo_call (fs := []) (cs := []) rfl rfl rfl hold_enters rfl (fun w1 hw1 => (hold_calls A _ c _ r (goneF r l day) w1 (Kd.C_below hr hw1.kx.below) (C_inB hw1 (by repeat (first | exact List.Mem.head _ | apply List.Mem.tail | apply List.mem_append_right)) (by omega)) hok).mono ?_)
  rintro e w3 ⟨bh, oh, rfl, hb, hge, h1, h2⟩
  refine ⟨_, _, rfl, hw1.more hb hge h1 h2, ?_⟩
  refine xo_call (fs := []) (cs := []) rfl rfl rfl ids_enters rfl (fun w1 hw1 => (ids_calls A _ c _ r (fun n => decide (n ∈ holdsF r (goneF r l day))) w1 (Kd.C_below hr hw1.kx.below) (C_inB hw1 (by repeat (first | exact List.Mem.head _ | apply List.Mem.tail | apply List.mem_append_right)) (by omega)) (by omega)).mono ?_)
  rintro e w4 ⟨rr, rfl, hrow, hb⟩
  have hrr := hrow.1
  refine ⟨_, _, rfl, hw1.row hb hrow, ?_⟩
  refine xo_asg rfl rfl rfl ?_
  refine xo_asg rfl rfl rfl ?_
  with_reducible refine xo_nil ?_
  with_reducible repeat (first | refine xq_then ?_ | refine xq_blockN ?_ | refine xq_scopeN ?_)
  with_reducible repeat refine xc_seq ?_
  with_reducible refine xc_ret ?_
  with_reducible repeat (first | refine xq_thenR ?_ | refine xq_blockR ?_ | refine xq_scopeR ?_)
  refine xq_ret2 rfl rfl rfl fun w' hw => ⟨rr, by rw [hR, ho], ?_, hw.kx.below⟩
  rw [hR]
  exact RowAt.of hw hrr
theorem refHolds_enters : ∀ args w, (callFunc 8 args).run Try.prog w = .ok (.enter 8 args) w := enters_of Try.func8 (by kernel_rfl) rfl
section
variable {P : Program} {N : Nat} {w0 : World} {X : Nat → Prop} {fn : Func} {R : Ending → World → Prop} {σ : Slots} {η : Hp}
theorem xq_ret4 {t u a b : Tmp} {v x y z : Value} (hf : fn.results = #[.tmp t, .tmp u, .tmp a, .tmp b]) (hv : slot t σ = some v) (hx : slot u σ = some x) (hy : slot a σ = some y) (hz : slot b σ = some z) (h : ∀ w, WOK w0 X η w → R (.returned (.tuple #[v, x, y, z])) w) : XQ N [] w0 X (bodyPost P fn R) .ret σ η :=
  fun ac w ha hw => ⟨ha.df, .tuple #[v, x, y, z], by simp [results, hf, ha.sl _ _ hv, ha.sl _ _ hx, ha.sl _ _ hy, ha.sl _ _ hz], h w hw⟩
end
set_option maxHeartbeats 16000000 in
theorem refOpen_calls (A B : Option Addr) (c c' : Nat) (r : List RecT) (l : List LetT) (day id : Int) (w : World) (hr : Kd.C recK w A r.length r) (hl : Kd.C letK w B l.length l) (hk : Bytes r) (hkl : BytesL l) :
    Calls Try.prog 30 #[.slice A r.length c, .slice B l.length c', .int .i64 day, .int .i64 id] w fun e w' => ∃ a v1 v2, e = .returned (.tuple #[.int .i64 a, v1, v2, .int .i64 (openF r l day [id])]) ∧ Below w.heap.size w w' ∧
      (openF r l day [id] = 0 → ∃ (k bg bh : Nat) (og oh : Obj), a = (k : Int) ∧ v1 = .slice (some ⟨bg, 0, none⟩) r.length r.length ∧ v2 = .slice (some ⟨bh, 0, none⟩) r.length r.length ∧ k < r.length ∧ idAt r k = id ∧ recordedF r = true ∧ w.heap.size ≤ bg ∧ w.heap.size ≤ bh ∧ bg ≠ bh ∧ w'.heap[bg]? = some og ∧ cel ((inB r (goneF r l day)).map .bool) 4 og ∧ w'.heap[bh]? = some oh ∧ cel ((inB r (holdsF r (goneF r l day))).map .bool) 4 oh) := by
  refine x_calls (X := XNone) Try.func30 rfl rfl rfl ?_
  with_reducible repeat refine xc_seq ?_
  with_reducible refine xc_region ?_
  refine xo_asg rfl rfl rfl ?_
  refine xo_asg rfl rfl rfl ?_
  refine xo_asg rfl rfl rfl ?_
  refine xo_asg rfl rfl rfl ?_
  with_reducible refine xo_nil ?_
  with_reducible repeat (first | refine xq_then ?_ | refine xq_blockN ?_ | refine xq_scopeN ?_)
  with_reducible repeat refine xc_seq ?_
  with_reducible refine xc_region ?_
  refine xo_mv rfl rfl rfl ?_
  refine xo_mv rfl rfl rfl ?_
  refine xo_callB (fs := []) (cs := []) rfl rfl rfl refCheck_enters rfl (fun w1 hw1 => refCheck_calls A B c c' r l w1 (Kd.C_below hr hw1.kx.below) (Kd.C_below hl hw1.kx.below) hk hkl) ?_
  refine xo_asg rfl rfl rfl ?_
  with_reducible refine xo_nil ?_
  with_reducible repeat (first | refine xq_then ?_ | refine xq_blockN ?_ | refine xq_scopeN ?_)
  with_reducible repeat refine xc_seq ?_
  with_reducible refine xc_region ?_
  refine xo_mv rfl rfl rfl ?_
  refine xo_neq rfl rfl rfl rfl ?_
  with_reducible refine xo_nil ?_
  with_reducible repeat (first | refine xq_then ?_ | refine xq_blockN ?_ | refine xq_scopeN ?_)
  with_reducible repeat refine xc_seq ?_
  refine xc_cond rfl (fun hc => ?_) (fun hc => ?_)
  · have hc : checkF r l ≠ 0 := by simpa using hc
    have ho : openF r l day [id] = checkF r l := by rw [openF, if_neg hc]
    with_reducible repeat refine xc_seq ?_
    with_reducible refine xc_region ?_
    refine xo_mv rfl rfl rfl ?_
    refine xo_asg rfl rfl rfl ?_
    refine xo_asg rfl rfl rfl ?_
    refine xo_asg rfl rfl rfl ?_
    refine xo_asg rfl rfl rfl ?_
    with_reducible refine xo_nil ?_
    with_reducible repeat (first | refine xq_then ?_ | refine xq_blockN ?_ | refine xq_scopeN ?_)
    with_reducible repeat refine xc_seq ?_
    with_reducible refine xc_ret ?_
    with_reducible repeat (first | refine xq_thenR ?_ | refine xq_blockR ?_ | refine xq_scopeR ?_)
    exact xq_ret4 rfl rfl rfl rfl rfl fun w' hw => ⟨_, _, _, by rw [ho], hw.kx.below, fun h => absurd (ho.symm.trans h) hc⟩
  have hc : checkF r l = 0 := by simpa using hc
  have hok := check_zero hc
  have hlen := recorded_len hok
  with_reducible refine xc_skip ?_
  with_reducible repeat (first | refine xq_then ?_ | refine xq_blockN ?_ | refine xq_scopeN ?_)
  with_reducible repeat refine xc_seq ?_
  with_reducible refine xc_region ?_
  refine xo_mv rfl rfl rfl ?_
  refine xo_callB (fs := []) (cs := []) rfl rfl rfl within_enters rfl (fun w1 hw1 => within_calls _ _ _ w1) ?_
  refine xo_notOp rfl rfl rfl ?_
  with_reducible refine xo_nil ?_
  with_reducible repeat (first | refine xq_then ?_ | refine xq_blockN ?_ | refine xq_scopeN ?_)
  with_reducible repeat refine xc_seq ?_
  refine xc_cond rfl (fun hd => ?_) (fun hd => ?_)
  · simp only [Bool.not_eq_true'] at hd
    have ho : openF r l day [id] = 2 := by rw [openF, if_pos hc, hd]; rfl
    with_reducible repeat refine xc_seq ?_
    with_reducible refine xc_region ?_
    refine xo_asg rfl rfl rfl ?_
    refine xo_asg rfl rfl rfl ?_
    refine xo_asg rfl rfl rfl ?_
    refine xo_asg rfl rfl rfl ?_
    with_reducible refine xo_nil ?_
    with_reducible repeat (first | refine xq_then ?_ | refine xq_blockN ?_ | refine xq_scopeN ?_)
    with_reducible repeat refine xc_seq ?_
    with_reducible refine xc_ret ?_
    with_reducible repeat (first | refine xq_thenR ?_ | refine xq_blockR ?_ | refine xq_scopeR ?_)
    exact xq_ret4 rfl rfl rfl rfl rfl fun w' hw => ⟨_, _, _, by rw [ho], hw.kx.below, fun h => absurd (ho.symm.trans h) (by decide)⟩
  simp only [Bool.not_eq_false'] at hd
  with_reducible refine xc_skip ?_
  with_reducible repeat (first | refine xq_then ?_ | refine xq_blockN ?_ | refine xq_scopeN ?_)
  with_reducible repeat refine xc_seq ?_
  with_reducible refine xc_region ?_
  refine xo_mv rfl rfl rfl ?_
  refine xo_mv rfl rfl rfl ?_
  refine xo_callB (fs := []) (cs := []) rfl rfl rfl at_enters rfl (fun w1 hw1 => at_calls _ _ _ _ w1 (Kd.C_below hr hw1.kx.below)) ?_
  refine xo_asg rfl rfl rfl ?_
  with_reducible refine xo_nil ?_
  with_reducible repeat (first | refine xq_then ?_ | refine xq_blockN ?_ | refine xq_scopeN ?_)
  with_reducible repeat refine xc_seq ?_
  with_reducible refine xc_region ?_
  refine xo_mv rfl rfl rfl ?_
  refine xo_lss rfl rfl rfl rfl ?_
  with_reducible refine xo_nil ?_
  with_reducible repeat (first | refine xq_then ?_ | refine xq_blockN ?_ | refine xq_scopeN ?_)
  with_reducible repeat refine xc_seq ?_
  refine xc_cond rfl (fun hi => ?_) (fun hi => ?_)
  · rw [atF_neg, Bool.not_eq_true'] at hi
    have ho : openF r l day [id] = 6 := by rw [openF, if_pos hc, hd]; simp [hi]
    with_reducible repeat refine xc_seq ?_
    with_reducible refine xc_region ?_
    refine xo_asg rfl rfl rfl ?_
    refine xo_asg rfl rfl rfl ?_
    refine xo_asg rfl rfl rfl ?_
    refine xo_asg rfl rfl rfl ?_
    with_reducible refine xo_nil ?_
    with_reducible repeat (first | refine xq_then ?_ | refine xq_blockN ?_ | refine xq_scopeN ?_)
    with_reducible repeat refine xc_seq ?_
    with_reducible refine xc_ret ?_
    with_reducible repeat (first | refine xq_thenR ?_ | refine xq_blockR ?_ | refine xq_scopeR ?_)
    exact xq_ret4 rfl rfl rfl rfl rfl fun w' hw => ⟨_, _, _, by rw [ho], hw.kx.below, fun h => absurd (ho.symm.trans h) (by decide)⟩
  rw [atF_neg, Bool.not_eq_false'] at hi
  have ho : openF r l day [id] = 0 := by rw [openF, if_pos hc, hd]; simp [hi]
  obtain ⟨k, hk1, hk2, hk3⟩ := atF_known hi
  with_reducible refine xc_skip ?_
  with_reducible repeat (first | refine xq_then ?_ | refine xq_blockN ?_ | refine xq_scopeN ?_)
  with_reducible repeat refine xc_seq ?_
  with_reducible refine xc_region ?_
  refine xo_mv rfl rfl rfl ?_
  refine xo_mv rfl rfl rfl ?_
  refine xo_mv rfl rfl rfl ?_
  refine xo_call (fs := []) (cs := []) rfl rfl rfl gone_enters rfl (fun w1 hw1 => (gone_calls A B c c' r l day w1 (Kd.C_below hr hw1.kx.below) (Kd.C_below hl hw1.kx.below) (by omega) hkl).mono ?_)
  rintro e w2 ⟨bg, og, rfl, hb, hge, h1, h2⟩
  rw [goneBs_in] at h2
  refine ⟨_, _, rfl, hw1.more hb hge h1 h2, ?_⟩
  refine xo_asg rfl rfl rfl ?_
  with_reducible refine xo_nil ?_
  with_reducible repeat (first | refine xq_then ?_ | refine xq_blockN ?_ | refine xq_scopeN ?_)
  with_reducible repeat refine xc_seq ?_
  with_reducible refine xc_region ?_
  refine xo_mv rfl rfl rfl ?_
  refine xo_mv rfl rfl rfl ?_
  refine xo_mv rfl rfl rfl ?_
  refine xo_mv rfl rfl rfl ?_
  refine xo_call (fs := []) (cs := []) rfl rfl rfl hold_enters rfl (fun w1 hw1 => (hold_calls A _ c _ r (goneF r l day) w1 (Kd.C_below hr hw1.kx.below) (C_inB hw1 (by repeat (first | exact List.Mem.head _ | apply List.Mem.tail | apply List.mem_append_right)) (by omega)) hok).mono ?_)
  rintro e w3 ⟨bh, oh, rfl, hb, hge, h1, h2⟩
  refine ⟨_, _, rfl, hw1.more hb hge h1 h2, ?_⟩
  refine xo_asg rfl rfl rfl ?_
  refine xo_asg rfl rfl rfl ?_
  refine xo_asg rfl rfl rfl ?_
  refine xo_asg rfl rfl rfl ?_
  with_reducible refine xo_nil ?_
  with_reducible repeat (first | refine xq_then ?_ | refine xq_blockN ?_ | refine xq_scopeN ?_)
  with_reducible repeat refine xc_seq ?_
  with_reducible refine xc_ret ?_
  with_reducible repeat (first | refine xq_thenR ?_ | refine xq_blockR ?_ | refine xq_scopeR ?_)
  refine xq_ret4 rfl rfl rfl rfl rfl fun w' hw => ⟨_, _, _, by rw [ho], hw.kx.below, fun _ => ?_⟩
  obtain ⟨oh, h3, h4⟩ := hw.bl _ (List.Mem.head _)
  obtain ⟨og, h5, h6⟩ := hw.bl _ (List.Mem.tail _ (List.Mem.head _))
  exact ⟨k, bg, bh, og, oh, hk2, rfl, rfl, hk1, hk3, hok, hw.own (List.Mem.tail _ (List.Mem.head _)), hw.own (List.Mem.head _), ne_of_nd hw, h5, h6, h3, h4⟩
theorem refOpen_enters : ∀ args w, (callFunc 30 args).run Try.prog w = .ok (.enter 30 args) w := enters_of Try.func30 (by kernel_rfl) rfl
end Go.Proofs.Ytcmepdamemnbkaa
namespace Go.Proofs.Ytcmepdamemnbkaa
open Go.RowKit Go.Proofs.YtcmepdamemnbkaaW.PrintWords
set_option linter.unusedVariables false
set_option linter.unusedSimpArgs false
theorem inB_at {r : List RecT} {H : List Int} {i : Nat} : (inB r H)[i]? = if i < r.length then some (decide (idAt r i ∈ H)) else none := by
  by_cases h : i < r.length
  · simp [inB, idAt, h, List.getD_eq_getElem?_getD, List.getElem?_eq_getElem h]
  · simp [inB, h]
theorem in_upd {r : List RecT} {G : List Int} {id : Int} {k b : Nat} {t : TypeId} {e : Nat × Bool × HP} {η : Hp} (hs : SortedIds r) (hk : k < r.length) (hid : idAt r k = id) :
    Upd b (cel (((inB r G).map Value.bool).set (0 + (k : Int).toNat * szN 0) (.bool true)) t) (e :: (b, true, cel ((inB r G).map Value.bool) t) :: η) (e :: (b, true, cel ((inB r (insN id G)).map Value.bool) t) :: η) := by
  have : ((inB r G).set k true) = inB r (insN id G) := by
    apply List.ext_getElem?
    intro i
    rw [List.getElem?_set, inB_at, inB_at, inB_len]
    by_cases h : i < r.length
    · by_cases e : k = i
      · subst e; simp [h, hid, mem_insN]
      · simp only [e, if_false, h, if_true]
        have : idAt r i ≠ id := fun q => e (sorted_inj hs hk h (hid.trans q.symm))
        congr 1
        rw [decide_eq_decide, mem_insN]
        exact ⟨.inr, fun q => q.resolve_left this⟩
    · by_cases e : k = i
      · subst e; omega
      · simp [e, h]
  rw [show 0 + (k : Int).toNat * szN 0 = k by simp [szN], ← List.map_set, this]
  exact Upd.tail Upd.head
theorem in_load {r : List RecT} {H : List Int} {k : Nat} (hk : k < r.length) : ((inB r H).map Value.bool)[0 + (k : Int).toNat * szN 0]? = some (.bool (decide (idAt r k ∈ H))) := by
  rw [show 0 + (k : Int).toNat * szN 0 = k by simp [szN], List.getElem?_map, inB_at, if_pos hk]
  rfl
def mixB (r : List RecT) (H H2 : List Int) (k : Nat) : List Bool := (List.range r.length).map fun i => decide (idAt r i ∈ H) && !(decide (i < k) && decide (idAt r i ∈ H2))
theorem mixB_len (r : List RecT) (H H2 : List Int) (k : Nat) : (mixB r H H2 k).length = r.length := by simp [mixB]
theorem mixB_at {r : List RecT} {H H2 : List Int} {k i : Nat} : (mixB r H H2 k)[i]? = if i < r.length then some (decide (idAt r i ∈ H) && !(decide (i < k) && decide (idAt r i ∈ H2))) else none := by
  by_cases h : i < r.length
  · simp [mixB, h]
  · simp [mixB, h]
theorem mixB_zero (r : List RecT) (H H2 : List Int) : mixB r H H2 0 = inB r H := by
  apply List.ext_getElem?
  intro i
  rw [mixB_at, inB_at]
  simp
theorem mixB_full (r : List RecT) (H H2 : List Int) : mixB r H H2 r.length = pB r fun n => decide (n ∈ H) && !decide (n ∈ H2) := by
  apply List.ext_getElem?
  intro i
  rw [mixB_at]
  by_cases h : i < r.length
  · simp [pB, h, idAt, List.getD_eq_getElem?_getD, List.getElem?_eq_getElem h]
  · simp [pB, h]
theorem mix_load {r : List RecT} {H H2 : List Int} {k : Nat} {q : Bool} (hk : k < r.length) (hq : decide (idAt r k ∈ H) = q) : ((mixB r H H2 k).map Value.bool)[0 + (k : Int).toNat * szN 0]? = some (.bool q) := by
  rw [show 0 + (k : Int).toNat * szN 0 = k by simp [szN], List.getElem?_map, mixB_at, if_pos hk, hq]
  simp
theorem mix_upd {r : List RecT} {H H2 : List Int} {k b : Nat} {v : Bool} {t : TypeId} {e : Nat × Bool × HP} {η : Hp} (hk : k < r.length) (hv : v = (decide (idAt r k ∈ H) && !decide (idAt r k ∈ H2))) :
    Upd b (cel (((mixB r H H2 k).map Value.bool).set (0 + (k : Int).toNat * szN 0) (.bool v)) t) (e :: (b, true, cel ((mixB r H H2 k).map Value.bool) t) :: η) (e :: (b, true, cel ((mixB r H H2 (k + 1)).map Value.bool) t) :: η) := by
  have : ((mixB r H H2 k).set k v) = mixB r H H2 (k + 1) := by
    apply List.ext_getElem?
    intro i
    rw [List.getElem?_set, mixB_at, mixB_at, mixB_len]
    by_cases h : i < r.length
    · by_cases e : k = i
      · subst e; simp [h, hv]
      · simp only [e, if_false, h, if_true]
        rw [show decide (i < k + 1) = decide (i < k) from decide_eq_decide.2 (by omega)]
    · by_cases e : k = i
      · subst e; omega
      · simp [e, h]
  rw [show 0 + (k : Int).toNat * szN 0 = k by simp [szN], ← List.map_set, this]
  exact Upd.tail Upd.head
theorem idsF_and (r : List RecT) (p q : Int → Bool) : idsF r (fun n => p n && q n) = (idsF r p).filter q := by
  unfold idsF
  rw [List.filter_map, List.filter_filter]
  congr 1
  refine List.filter_congr fun x _ => ?_
  simp [Bool.and_comm]
set_option maxHeartbeats 16000000 in
theorem refTakes_calls (A B : Option Addr) (c c' : Nat) (r : List RecT) (l : List LetT) (day id : Int) (w : World) (hr : Kd.C recK w A r.length r) (hl : Kd.C letK w B l.length l) (hk : Bytes r) (hkl : BytesL l) :
    Calls Try.prog 10 #[.slice A r.length c, .slice B l.length c', .int .i64 day, .int .i64 id] w fun e w' => ∃ rr : RowR, e = .returned (.tuple #[valR rr (takesR r l day id).length, .int .i64 (openF r l day [id])]) ∧ RowAt 3 w.heap.size w' rr (takesR r l day id) ∧ Below w.heap.size w w' := by
  refine x_calls (X := XNone) Try.func10 rfl rfl rfl ?_
  with_reducible repeat refine xc_seq ?_
  with_reducible refine xc_region ?_
  refine xo_asg rfl rfl rfl ?_
  refine xo_asg rfl rfl rfl ?_
  with_reducible refine xo_nil ?_
  with_reducible repeat (first | refine xq_then ?_ | refine xq_blockN ?_ | refine xq_scopeN ?_)
  by_cases ho : openF r l day [id] = 0
  rotate_left
  · have hd : (!decide (openF r l day [id] = 0)) = true := by simp [ho]
    with_reducible repeat refine xc_seq ?_
    with_reducible refine xc_region ?_
    refine xo_mv rfl rfl rfl ?_
    refine xo_mv rfl rfl rfl ?_
    refine xo_mv rfl rfl rfl ?_
    refine xo_mv rfl rfl rfl ?_
    refine xo_call (fs := []) (cs := []) rfl rfl rfl refOpen_enters rfl (fun w1 hw1 => (refOpen_calls A B c c' r l day id w1 (Kd.C_below hr hw1.kx.below) (Kd.C_below hl hw1.kx.below) hk hkl).mono ?_)
    rintro e w2 ⟨a, v1, v2, rfl, hb, _⟩
    refine ⟨_, _, rfl, hw1.below hb, ?_⟩
    refine xo_mv rfl rfl rfl ?_
    refine xo_ext rfl rfl rfl rfl ?_
    refine xo_ext rfl rfl rfl rfl ?_
    refine xo_ext rfl rfl rfl rfl ?_
    refine xo_ext rfl rfl rfl rfl ?_
    refine xo_asg rfl rfl rfl ?_
    refine xo_asg rfl rfl rfl ?_
    refine xo_asg rfl rfl rfl ?_
    refine xo_asg rfl rfl rfl ?_
    with_reducible refine xo_nil ?_
    with_reducible repeat (first | refine xq_then ?_ | refine xq_blockN ?_ | refine xq_scopeN ?_)
    with_reducible repeat refine xc_seq ?_
    with_reducible refine xc_region ?_
    refine xo_mv rfl rfl rfl ?_
    refine xo_neq rfl rfl rfl rfl ?_
    refine xo_as (i := 27) rfl (congrArg Value.bool hd) ?_
    with_reducible refine xo_nil ?_
    with_reducible repeat (first | refine xq_then ?_ | refine xq_blockN ?_ | refine xq_scopeN ?_)
    with_reducible repeat refine xc_seq ?_
    refine xc_condT rfl ?_
    with_reducible repeat refine xc_seq ?_
    with_reducible refine xc_region ?_
    refine xo_mv rfl rfl rfl ?_
    refine xo_asg rfl rfl rfl ?_
    refine xo_asg rfl rfl rfl ?_
    with_reducible refine xo_nil ?_
    with_reducible repeat (first | refine xq_then ?_ | refine xq_blockN ?_ | refine xq_scopeN ?_)
    with_reducible repeat refine xc_seq ?_
    with_reducible refine xc_ret ?_
    with_reducible repeat (first | refine xq_thenR ?_ | refine xq_blockR ?_ | refine xq_scopeR ?_)
    refine xq_ret2 rfl rfl rfl fun w' hw => ⟨none, by rw [takesR, if_neg ho]; rfl, ?_, hw.kx.below⟩
    rw [takesR, if_neg ho]
    exact ⟨fun _ => rfl, fun p hp => by cases hp⟩
  have hd : (!decide (openF r l day [id] = 0)) = false := by simp [ho]
  have hck : checkF r l = 0 := by
    unfold openF at ho
    split at ho
    · assumption
    · exact absurd ho (by assumption)
  have hok := check_zero hck
  have hlen := recorded_len hok
  have hsrt := sorted_of hok
  have hkn : knownF r id = true := by
    unfold openF at ho
    rw [if_pos hck] at ho
    split at ho
    · split at ho
      · rename_i h; simpa using h
      · cases ho
    · cases ho
  have hT : takesR r l day id = idsF r (fun n => decide (n ∈ holdsF r (goneF r l day)) && !decide (n ∈ holdsF r (insN id (goneF r l day)))) := by
    rw [takesR, if_pos ho, idsF_and, ids_holds hsrt]
    rfl
  with_reducible repeat refine xc_seq ?_
  with_reducible refine xc_region ?_
  refine xo_mv rfl rfl rfl ?_
  refine xo_mv rfl rfl rfl ?_
  refine xo_mv rfl rfl rfl ?_
  refine xo_mv rfl rfl rfl ?_
  refine xo_call (fs := []) (cs := []) rfl rfl rfl refOpen_enters rfl (fun w1 hw1 => (refOpen_calls A B c c' r l day id w1 (Kd.C_below hr hw1.kx.below) (Kd.C_below hl hw1.kx.below) hk hkl).mono ?_)
  rintro e w2 ⟨a, v1, v2, rfl, hb, h0⟩
  obtain ⟨k, bg, bh, og, oh, rfl, rfl, rfl, hk1, hk2, _, hg1, hh1, hne, h1, h2, h3, h4⟩ := h0 ho
  refine ⟨_, _, rfl, hw1.more2 (φ := cel ((inB r (goneF r l day)).map .bool) 4) (φ2 := cel ((inB r (holdsF r (goneF r l day))).map .bool) 4) hb hg1 hh1 hne h1 h3 h2 h4, ?_⟩
  clear hb hg1 hh1 hne h1 h2 h3 h4 h0
  refine xo_mv rfl rfl rfl ?_
  refine xo_ext rfl rfl rfl rfl ?_
  refine xo_ext rfl rfl rfl rfl ?_
  refine xo_ext rfl rfl rfl rfl ?_
  refine xo_ext rfl rfl rfl rfl ?_
  refine xo_asg rfl rfl rfl ?_
  refine xo_asg rfl rfl rfl ?_
  refine xo_asg rfl rfl rfl ?_
  refine xo_asg rfl rfl rfl ?_
  with_reducible refine xo_nil ?_
  with_reducible repeat (first | refine xq_then ?_ | refine xq_blockN ?_ | refine xq_scopeN ?_)
  with_reducible repeat refine xc_seq ?_
  with_reducible refine xc_region ?_
  refine xo_mv rfl rfl rfl ?_
  refine xo_neq rfl rfl rfl rfl ?_
  refine xo_as (i := 27) rfl (congrArg Value.bool hd) ?_
  with_reducible refine xo_nil ?_
  with_reducible repeat (first | refine xq_then ?_ | refine xq_blockN ?_ | refine xq_scopeN ?_)
  with_reducible repeat refine xc_seq ?_
  refine xc_condF rfl ?_
  with_reducible refine xc_skip ?_
  with_reducible repeat (first | refine xq_then ?_ | refine xq_blockN ?_ | refine xq_scopeN ?_)
  with_reducible repeat refine xc_seq ?_
  with_reducible refine xc_region ?_
  refine xo_mv rfl rfl rfl ?_
  refine xo_mv rfl rfl rfl ?_
  refine xo_ia T_ rfl rfl rfl rfl rfl ⟨by omega, by omega⟩ rfl ?_
  refine xo_storeI T_ rfl rfl rfl rfl (by repeat (first | exact List.Mem.head _ | apply List.Mem.tail | apply List.mem_append_right)) rfl rfl (by rw [List.length_map, inB_len]; simpa [szN] using hk1) (in_upd hsrt hk1 hk2) rfl ?_
  with_reducible refine xo_nil ?_
  with_reducible repeat (first | refine xq_then ?_ | refine xq_blockN ?_ | refine xq_scopeN ?_)
  with_reducible repeat refine xc_seq ?_
  with_reducible refine xc_region ?_
  refine xo_mv rfl rfl rfl ?_
  refine xo_mv rfl rfl rfl ?_
  refine xo_call (fs := []) (cs := []) rfl rfl rfl hold_enters rfl (fun w1 hw1 => (hold_calls A _ c _ r (insN id (goneF r l day)) w1 (Kd.C_below hr hw1.kx.below) (C_inB hw1 (by repeat (first | exact List.Mem.head _ | apply List.Mem.tail | apply List.mem_append_right)) (by omega)) hok).mono ?_)
  rintro e w3 ⟨b2, o2, rfl, hb, hge, h1, h2⟩
  refine ⟨_, _, rfl, hw1.more hb hge h1 h2, ?_⟩
  clear hb hge h1 h2
  refine xo_asg rfl rfl rfl ?_
  with_reducible refine xo_nil ?_
  with_reducible repeat (first | refine xq_then ?_ | refine xq_blockN ?_ | refine xq_scopeN ?_)
  with_reducible repeat refine xc_seq ?_
  with_reducible refine xc_region ?_
  refine xo_asg rfl rfl rfl ?_
  with_reducible refine xo_nil ?_
  with_reducible repeat (first | refine xq_then ?_ | refine xq_blockN ?_ | refine xq_scopeN ?_)
  with_reducible repeat refine xc_seq ?_
  with_reducible refine xc_block ?_
  refine xc_loop (γ := Nat) (fun k => k ≤ r.length) (fun k => [(0, .slice A r.length c), (12, .slice (some ⟨bh, 0, none⟩) r.length r.length), (14, .slice (some ⟨b2, 0, none⟩) r.length r.length), (15, .int .i64 (k : Int))])
    (fun k => [(b2, true, cel ((inB r (holdsF r (insN id (goneF r l day)))).map .bool) 4), (bh, true, cel ((mixB r (holdsF r (goneF r l day)) (holdsF r (insN id (goneF r l day))) k).map .bool) 4)]) (fun k => r.length - k) 0
    (Nat.zero_le _) ⟨rfl, rfl, rfl, rfl, trivial⟩ (by rw [mixB_zero]; exact (by repeat (first | exact List.Sublist.refl _ | apply List.Sublist.cons_cons | apply List.Sublist.cons | exact List.nil_sublist _))) ?_
  intro k hk1
  with_reducible repeat refine xc_seq ?_
  with_reducible refine xc_region ?_
  refine xo_mv rfl rfl rfl ?_
  refine xo_mv rfl rfl rfl ?_
  refine xo_len T_ rfl rfl rfl rfl ?_
  refine xo_lss rfl rfl rfl rfl ?_
  with_reducible refine xo_nil ?_
  with_reducible repeat (first | refine xq_then ?_ | refine xq_blockN ?_ | refine xq_scopeN ?_)
  with_reducible repeat refine xc_seq ?_
  refine xc_cond rfl (fun h => ?_) (fun h => ?_)
  · have hlt : k < r.length := by have := of_decide_eq_true h; omega
    with_reducible refine xc_skip ?_
    with_reducible repeat (first | refine xq_then ?_ | refine xq_blockN ?_ | refine xq_scopeN ?_)
    with_reducible repeat refine xc_seq ?_
    with_reducible refine xc_block ?_
    cases hq : decide (idAt r k ∈ holdsF r (goneF r l day))
    all_goals
      with_reducible repeat refine xc_seq ?_
      with_reducible refine xc_region ?_
      refine xo_mv rfl rfl rfl ?_
      refine xo_mv rfl rfl rfl ?_
      refine xo_mv rfl rfl rfl ?_
      refine xo_mv rfl rfl rfl ?_
      refine xo_ia T_ rfl rfl rfl rfl rfl ⟨by omega, by omega⟩ rfl ?_
      refine xo_loadI T_ rfl rfl rfl (by repeat (first | exact List.Mem.head _ | apply List.Mem.tail | apply List.mem_append_right)) (mix_load hlt hq) rfl ?_
      refine xo_mv rfl rfl rfl ?_
      first
        | refine xo_not rfl rfl ?_
        | (refine xo_mv rfl rfl rfl ?_)
      first
        | refine xo_not rfl rfl ?_
        | (refine xo_mv rfl rfl rfl ?_)
      first
        | refine xo_not rfl rfl ?_
        | (refine xo_ia T_ rfl rfl rfl rfl rfl ⟨by omega, by omega⟩ rfl ?_)
      first
        | refine xo_not rfl rfl ?_
        | (refine xo_loadI T_ rfl rfl rfl (by repeat (first | exact List.Mem.head _ | apply List.Mem.tail | apply List.mem_append_right)) (in_load hlt) rfl ?_)
      first
        | refine xo_not rfl rfl ?_
        | (refine xo_notOp rfl rfl rfl ?_)
      first | refine xo_pickT rfl rfl rfl rfl ?_ | refine xo_pickF rfl rfl rfl rfl ?_
      refine xo_ia T_ rfl rfl rfl rfl rfl ⟨by omega, by omega⟩ rfl ?_
      refine xo_storeI T_ rfl rfl rfl rfl (by repeat (first | exact List.Mem.head _ | apply List.Mem.tail | apply List.mem_append_right)) rfl rfl (by rw [List.length_map, mixB_len]; simpa [szN] using hlt) (mix_upd hlt (by rw [hq]; rfl)) rfl ?_
      with_reducible refine xo_nil ?_
      with_reducible repeat (first | refine xq_then ?_ | refine xq_blockN ?_ | refine xq_scopeN ?_)
      with_reducible repeat refine xc_seq ?_
      with_reducible refine xc_region ?_
      refine xo_mv rfl rfl rfl ?_
      refine xo_add rfl rfl rfl (by omega) rfl ?_
      refine xo_asg rfl rfl rfl ?_
      with_reducible refine xo_nil ?_
      with_reducible repeat (first | refine xq_then ?_ | refine xq_blockN ?_ | refine xq_scopeN ?_)
      exact xq_again _ _ _ _ _ (k + 1) (by omega) (by omega) ⟨rfl, rfl, rfl, rfl, trivial⟩ (by repeat (first | exact List.Sublist.refl _ | apply List.Sublist.cons_cons | apply List.Sublist.cons | exact List.nil_sublist _))
  · have hge : ¬ k < r.length := by have := of_decide_eq_false h; omega
    have hkk : k = r.length := by omega
    subst hkk
    rw [mixB_full]
    with_reducible refine xc_exit ?_
    with_reducible repeat (first | refine xq_blockX ?_ | refine xq_thenE ?_ | refine xq_blockE rfl ?_ | refine xq_scopeE ?_)
    with_reducible repeat (first | refine xq_then ?_ | refine xq_blockN ?_ | refine xq_scopeN ?_)
    with_reducible repeat refine xc_seq ?_
    with_reducible refine xc_region ?_
    refine xo_mv rfl rfl rfl ?_
    refine xo_mv rfl rfl rfl ?_
    refine xo_call (fs := []) (cs := []) rfl rfl rfl ids_enters rfl (fun w1 hw1 => (ids_calls A _ c _ r (fun n => decide (n ∈ holdsF r (goneF r l day)) && !decide (n ∈ holdsF r (insN id (goneF r l day)))) w1 (Kd.C_below hr hw1.kx.below) (by have := C_celB hw1 (xs := pB r _) (List.Mem.tail _ (List.Mem.head _)) (by simp [pB]; omega); rwa [pB, List.length_map] at this) (by omega)).mono ?_)
    rintro e w4 ⟨rr, rfl, hrow, hb⟩
    have hrr := hrow.1
    refine ⟨_, _, rfl, hw1.row hb hrow, ?_⟩
    refine xo_asg rfl rfl rfl ?_
    refine xo_asg rfl rfl rfl ?_
    with_reducible refine xo_nil ?_
    with_reducible repeat (first | refine xq_then ?_ | refine xq_blockN ?_ | refine xq_scopeN ?_)
    with_reducible repeat refine xc_seq ?_
    with_reducible refine xc_ret ?_
    with_reducible repeat (first | refine xq_thenR ?_ | refine xq_blockR ?_ | refine xq_scopeR ?_)
    refine xq_ret2 rfl rfl rfl fun w' hw => ⟨rr, by rw [hT, ho], ?_, hw.kx.below⟩
    rw [hT]
    exact RowAt.of hw hrr
theorem refTakes_enters : ∀ args w, (callFunc 10 args).run Try.prog w = .ok (.enter 10 args) w := enters_of Try.func10 (by kernel_rfl) rfl
end Go.Proofs.Ytcmepdamemnbkaa
namespace Go.Proofs.Ytcmepdamemnbkaa
open Go.RowKit
set_option linter.unusedVariables false
set_option linter.unusedSimpArgs false
section
variable {P : Program} {ro : Option Nat} {n N : Nat} {ds : List Deferred} {w0 : World} {X : Nat → Prop} {Q : Exit → Act → World → Prop} {σ : Slots} {η : Hp} {ops rest : List Oper} {d : Option Tmp} {ty : TypeId} {pos : String} {aft : Array Edge} {g : Option (Nat × Bool)}
/-- a row literal without elements -/
theorem xo_bs0 (T : Tys P) (sz : Nat) {t e : TypeId} {k0 : Nat} (hg : gS ops σ g = some true) (ht : look t T.el = some e) (hk : look e T.tk = some k0) (hN : dstOK N d = true)
    (h : ∀ b, XO P ro n N ds w0 X Q ops (putS d (.slice (some ⟨b, 0, none⟩) 0 0) σ) ((b, true, orow e sz 0 0 []) :: η) rest) : XO P ro n N ds w0 X Q ops σ η (⟨d, .buildSlice t 0 #[], ty, pos, aft, g⟩ :: rest) :=
  xo_base rfl hg fun a w ha hw => by
    have h1 := T.hel _ (look_mem ht)
    obtain ⟨h2, h3⟩ := T.htk _ (look_mem hk)
    simp only at h1 h3
    refine ⟨_, w.alloc (.cells #[] e), .slice (some ⟨w.heap.size, 0, none⟩) 0 0, ?_, .inl rfl, h _ _ _ (ha.put hN _) (hw.alloc _ _ ⟨#[], rfl, Nat.le_refl _, by simp [maxLen], by simp, by simp⟩)⟩
    simp [execOp, Instr.buildSlice, run_underlying h1, h3 w, Instr.fill, newRow, Array.range_zero']
theorem xo_appN (T : TysR P) {t e : TypeId} {s x : Operand} {z : Value} {sz by_ m k c : Nat} {A : Option Addr} {r : RowR} {xs news : List Value} {η0 : Hp} (hg : gS ops σ g = some true) (ht : look t T.el = some e) (hi : look e T.inf = some (z, sz, by_)) (hzs : z.cells.toList.length = sz) (hsz : Nat.blt 0 sz = true)
    (hs : ev σ s = some (valR r m)) (hx : ev σ x = some (.slice A k c)) (hη : η = hpR e sz r m xs ++ η0) (hl : xs.length = m * sz) (hn : news.length = k * sz) (hA : A = none → k = 0) (hnews : ∀ p, A = some p → ∀ w, WOK w0 X η w → ∀ j u, news[j]? = some u → w.cell? (p.add j) = some u) (h1 : ∀ u ∈ news, u.oneCell' = true) (h0 : r = none → m = 0)
    (hb : (m + k) * by_ ≤ 140737488355328) (hb0 : Nat.blt 0 by_ = true) (hN : dstOK N d = true)
    (h : ∀ r' : RowR, (r' = none → r = none ∧ k = 0) → XO P ro n N ds w0 X Q ops (putS d (valR r' (m + k)) σ) (hpR e sz r' (m + k) (xs ++ news) ++ η0) rest) :
    XO P ro n N ds w0 X Q ops σ η (⟨d, .call { callee := .builtin .append, args := #[s, x], argTypes := #[t, t] }, ty, pos, aft, g⟩ :: rest) := by
  subst hη
  refine xo_base rfl hg fun a w ha hw => ?_
  have hT := T.hel _ (look_mem ht)
  obtain ⟨i, hi1, hi2⟩ := Option.map_eq_some_iff.1 (T.hinf _ (look_mem hi))
  simp only [Prod.mk.injEq] at hi2
  obtain ⟨iz, isz, iby⟩ := hi2
  have hb1 : 0 < by_ := by simpa [Nat.blt_eq] using hb0
  have hlen : m + k ≤ 140737488355328 := Nat.le_trans (Nat.le_mul_of_pos_right _ hb1) hb
  cases A with
  | none =>
    have hk0 := hA rfl
    subst hk0
    have hnn : news = [] := List.eq_nil_of_length_eq_zero (by simpa using hn)
    subst hnn
    have hr : ∃ base cap, valR r m = .slice base m cap ∧ m ≤ cap := by
      cases r with
      | none => exact ⟨none, 0, by rw [h0 rfl]; rfl, by rw [h0 rfl]; exact Nat.le_refl _⟩
      | some p =>
        obtain ⟨o, h2, cur, rfl, h3, _⟩ := hw.bl (p.1, true, orow e sz m p.2 xs) (List.mem_append_left _ (List.mem_cons_self ..))
        exact ⟨_, _, rfl, h3⟩
    obtain ⟨base, cap, hv, hle⟩ := hr
    have hsrc : Src P i.size t (.slice none 0 c) 0 [] w := ⟨.inl ⟨e, hT⟩, fun w' => by simp [Builtin.lenOf], by simp [Builtin.firstCells], by simp [Builtin.firstCells], by simp, by simp⟩
    have hrun := run_append_nothing (P := P) w t t ty e i hT hi1 base m cap hle _ hsrc
    refine ⟨.value (valR r m), w, _, ?_, .inl rfl, h r (fun q => ⟨q, rfl⟩) _ _ (ha.put hN _) (by rw [List.append_nil]; exact hw)⟩
    simp only [execOp, resolve, invoke, builtin, Sem.run_bind, Sem.run_pure, Result.andThen_ok, List.map_toArray, List.map_cons, List.map_nil, ha.ev hs, ha.ev hx, hv, hrun]
  | some p =>
    have hown := hw.owns hl h0
    obtain ⟨v', w', hr, own', hgr, hnil, hat⟩ := run_append_own_at (P := P) w 0 t ty e i z sz by_ hT hi1 iz isz iby (by simpa using hzs) (by simpa [Nat.blt_eq] using hsz) (valR r m) m xs hown p k c news hn
      (fun j u hj => hnews p rfl w hw j u hj) h1 (by simp only [maxLen]; omega) hb (Nat.zero_le _)
    have hη0 := hw.sub (List.sublist_append_right (hpR e sz r m xs) η0)
    have hold : ∀ k, k < w.heap.size → (∀ p, r = some p → k ≠ p.1) → w'.heap[k]? = w.heap[k]? := fun k hk hne => hgr.block k hk (fun e' => by
      cases r with
      | none => simp [valR, Value.ownBlock] at e'
      | some p => simp [valR, Value.ownBlock] at e'; exact hne p rfl e')
    have hne0 : ∀ e' ∈ η0, ∀ p, r = some p → e'.1 ≠ p.1 := fun e' he p hp q => by
      subst hp
      have hnd := hw.nd
      simp only [hpR, List.cons_append, List.nil_append, List.map_cons, List.nodup_cons] at hnd
      exact hnd.1 (List.mem_map.2 ⟨e', he, q⟩)
    have hrow : ∀ p, r = some p → w0.heap.size ≤ p.1 ∨ X p.1 := fun p hp => by
      subst hp
      exact hw.ow (p.1, true, orow e sz m p.2 xs) (List.mem_append_left _ (List.mem_cons_self ..)) rfl
    have hk0 : Kx X w0 w' := ⟨hgr.os.trans hη0.kx.os, hgr.tape.trans hη0.kx.tape, hgr.output.trans hη0.kx.output, Nat.le_trans hη0.kx.size hgr.size, fun k hk hx => by
      refine (hold k (Nat.lt_of_lt_of_le hk hη0.kx.size) (fun p hp q => ?_)).trans (hη0.kx.block k hk hx)
      subst q
      rcases hrow p hp with h9 | h9
      · exact absurd hk (Nat.not_lt.2 h9)
      · exact hx h9⟩
    have hw0' : WOK w0 X η0 w' := ⟨hk0, fun e' he => by
      obtain ⟨o, h9, h10⟩ := hη0.bl e' he
      exact ⟨o, (hold _ (hη0.lt he) (hne0 e' he)).trans h9, h10⟩, hη0.nd, hη0.ow⟩
    obtain ⟨h2, h3⟩ := own'
    have run : ∀ v'', v' = v'' → (execOp a.eval ⟨d, .call { callee := .builtin .append, args := #[s, x], argTypes := #[t, t] }, ty, pos, aft, g⟩).run P w = .ok (.value v'') w' := fun v'' e' => by
      subst e'
      simp only [execOp, resolve, invoke, builtin, Sem.run_bind, Sem.run_pure, Result.andThen_ok, List.map_toArray, List.map_cons, List.map_nil, ha.ev hs, ha.ev hx, hr]
    rcases h3 with ⟨hv0, h3⟩ | ⟨g', cap', cur, hv0, _, h4, h5, h6, h7, h8⟩
    · have hm0 : m = 0 ∧ k = 0 := by omega
      obtain ⟨hr0, _⟩ := hnil.1 hv0
      have hrn : r = none := by
        cases r with
        | none => rfl
        | some p => simp [valR] at hr0
      refine ⟨.value (valR none (m + k)), w', _, run _ hv0, .inl rfl, h none (fun _ => ⟨hrn, hm0.2⟩) _ _ (ha.put hN _) hw0'⟩
    · refine ⟨.value (.slice (some ⟨g', 0, none⟩) (m + k) cap'), w', _, run _ hv0, .inl rfl, h (some (g', cap')) (by simp) _ _ (ha.put hN _) ?_⟩
      subst hv0
      have hg' : (∃ p, r = some p ∧ g' = p.1) ∨ g' = w.heap.size := by
        rcases hat with hat | hat
        · left
          cases r with
          | none => simp [valR, Value.ownBlock] at hat
          | some p => simp [valR, Value.ownBlock] at hat; exact ⟨p, rfl, hat⟩
        · right
          simpa [Value.ownBlock] using hat
      refine ⟨hk0, ?_, ?_, ?_⟩
      · intro e' he
        rcases List.mem_append.1 he with he | he
        · simp only [hpR, List.mem_singleton] at he
          subst he
          exact ⟨_, h4, cur, rfl, h5, h6, h7, h8⟩
        · exact hw0'.bl e' he
      · simp only [hpR, List.cons_append, List.nil_append, List.map_cons, List.nodup_cons]
        refine ⟨fun hm => ?_, hη0.nd⟩
        obtain ⟨e', he, q⟩ := List.mem_map.1 hm
        rcases hg' with ⟨p, hp, hg'⟩ | hg'
        · exact hne0 e' he p hp (q.trans hg')
        · have := hη0.lt he
          omega
      · intro e' he hwr
        rcases List.mem_append.1 he with he | he
        · simp only [hpR, List.mem_singleton] at he
          subst he
          rcases hg' with ⟨p, hp, hg'⟩ | hg'
          · rw [show g' = p.1 from hg']; exact hrow p hp
          · exact .inl (by rw [show g' = _ from hg']; exact hη0.kx.size)
        · exact hη0.ow e' he hwr
end
end Go.Proofs.Ytcmepdamemnbkaa
