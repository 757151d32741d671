/- ref08.Check answers what trust.Check answers. -/
import Derived.Test.YtcmepdamemnbkaaRRecW
namespace Go.Proofs.Ytcmepdamemnbkaa
open Go.RowKit Go.Proofs.YtcmepdamemnbkaaW.PrintWords
set_option linter.unusedVariables false
set_option linter.unusedSimpArgs false
theorem lettersF_len {r : List RecT} : ∀ (l : List LetT) (last i : Int), lettersF r last i l = true → l = [] ∨ i + (l.length : Int) ≤ 20
  | [], _, _, _ => .inl rfl
  | x :: l, last, i, h => by
    simp only [lettersF, Bool.and_eq_true, Bool.not_eq_true', decide_eq_false_iff_not] at h
    obtain ⟨⟨_, h1⟩, h2⟩ := h
    rcases lettersF_len l _ _ h2 with rfl | h3
    · right; simp; omega
    · right; simp; omega
def pastL (l : List LetT) (k : Nat) : Int := if k = 0 then -1 else (l.getD (k - 1) zLet).f0
def badL (r : List RecT) (l : List LetT) (k : Nat) (x : LetT) : Bool := !inF 0 9999 x.f0 || (decide (0 < (k : Int)) && decide (x.f0 ≤ (l.getD (k - 1) zLet).f0)) || !inF 0 100000 x.f1 || decide (atF r x.f2 < 0) || !inF 1 2 x.f3
theorem split6 (c1 c2 c3 c4 c5 c6 : Bool) : (c1 = true ∧ (c1 || (c2 && c3) || c4 || c5 || c6) = true) ∨ (c1 = false ∧ c2 = true ∧ c3 = true ∧ (c1 || (c2 && c3) || c4 || c5 || c6) = true)
    ∨ (c1 = false ∧ c2 = true ∧ c3 = false ∧ c4 = true ∧ (c1 || (c2 && c3) || c4 || c5 || c6) = true) ∨ (c1 = false ∧ c2 = true ∧ c3 = false ∧ c4 = false ∧ c5 = true ∧ (c1 || (c2 && c3) || c4 || c5 || c6) = true)
    ∨ (c1 = false ∧ c2 = true ∧ c3 = false ∧ c4 = false ∧ c5 = false ∧ c6 = true ∧ (c1 || (c2 && c3) || c4 || c5 || c6) = true) ∨ (c1 = false ∧ c2 = true ∧ c3 = false ∧ c4 = false ∧ c5 = false ∧ c6 = false ∧ (c1 || (c2 && c3) || c4 || c5 || c6) = false)
    ∨ (c1 = false ∧ c2 = false ∧ c4 = true ∧ (c1 || (c2 && c3) || c4 || c5 || c6) = true) ∨ (c1 = false ∧ c2 = false ∧ c4 = false ∧ c5 = true ∧ (c1 || (c2 && c3) || c4 || c5 || c6) = true)
    ∨ (c1 = false ∧ c2 = false ∧ c4 = false ∧ c5 = false ∧ c6 = true ∧ (c1 || (c2 && c3) || c4 || c5 || c6) = true) ∨ (c1 = false ∧ c2 = false ∧ c4 = false ∧ c5 = false ∧ c6 = false ∧ (c1 || (c2 && c3) || c4 || c5 || c6) = false) := by
  cases c1 <;> cases c2 <;> cases c3 <;> cases c4 <;> cases c5 <;> cases c6 <;> simp
theorem let_at' {w : World} {ad : Addr} {l : List LetT} (h : Kd.C letK w (some ad) l.length l) (k : Nat) (hk : k < l.length) (h0 : 0 < (k : Int)) :
    RO w XNone (ad.add (((k : Int) - 1).toNat * szN 4)) (letV (l.getD (k - 1) zLet)) := by
  obtain ⟨ad2, e, h1⟩ := let_at h (k - 1) (by omega)
  cases e
  rw [show ((k : Int) - 1).toNat = ((k - 1 : Nat) : Int).toNat by omega]
  exact h1
theorem badL_step {r : List RecT} {l : List LetT} {k : Nat} {x : LetT} (hk : k < 20) (h0 : ∀ i, i < k → 0 ≤ (l.getD i zLet).f0) :
    (inF (pastL l k + 1) 9999 x.f0 && inF 0 100000 x.f1 && knownF r x.f2 && inF 1 2 x.f3 && !decide (20 ≤ (k : Int))) = !badL r l k x := by
  have h1 : inF (pastL l k + 1) 9999 x.f0 = (inF 0 9999 x.f0 && !(decide (0 < (k : Int)) && decide (x.f0 ≤ (l.getD (k - 1) zLet).f0))) := by
    by_cases hk : k = 0
    · subst hk; simp [inF, pastL]
    · have := h0 (k - 1) (by omega)
      have e0 : decide (0 < (k : Int)) = true := decide_eq_true (by omega)
      rw [pastL, if_neg hk, e0, Bool.true_and]
      exact inF_step _ _ this
  have h2 : decide (20 ≤ (k : Int)) = false := decide_eq_false (by omega)
  rw [h1, h2, badL, atF_neg]
  cases inF 0 9999 x.f0 <;> cases (decide (0 < (k : Int)) && decide (x.f0 ≤ (l.getD (k - 1) zLet).f0)) <;> cases inF 0 100000 x.f1 <;> cases knownF r x.f2 <;> cases inF 1 2 x.f3 <;> rfl
set_option maxHeartbeats 16000000 in
theorem refCheck_calls (A B : Option Addr) (c c' : Nat) (r : List RecT) (l : List LetT) (w : World) (hr : Kd.C recK w A r.length r) (hl : Kd.C letK w B l.length l) (hk : Bytes r) (hkl : BytesL l) :
    Calls Try.prog 12 #[.slice A r.length c, .slice B l.length c'] w fun e w' => e = .returned (.int .i64 (checkF r l)) ∧ Below w.heap.size w w' := by
  have hn := hl.2.1
  refine x_calls (X := XNone) Try.func12 rfl rfl rfl ?_
  with_reducible repeat refine xc_seq ?_
  with_reducible refine xc_region ?_
  refine xo_asg rfl rfl rfl ?_
  with_reducible refine xo_nil ?_
  with_reducible repeat (first | refine xq_then ?_ | refine xq_blockN ?_ | refine xq_scopeN ?_)
  with_reducible repeat refine xc_seq ?_
  with_reducible refine xc_region ?_
  refine xo_mv rfl rfl rfl ?_
  refine xo_callB (fs := []) (cs := []) rfl rfl rfl records_enters rfl (fun w1 hw1 => records_calls A c r w1 (Kd.C_below hr hw1.kx.below) hk) ?_
  refine xo_notOp rfl rfl rfl ?_
  with_reducible refine xo_nil ?_
  with_reducible repeat (first | refine xq_then ?_ | refine xq_blockN ?_ | refine xq_scopeN ?_)
  with_reducible repeat refine xc_seq ?_
  refine xc_cond rfl (fun hrec => ?_) (fun hrec => ?_)
  · with_reducible repeat refine xc_seq ?_
    with_reducible refine xc_region ?_
    refine xo_asg rfl rfl rfl ?_
    with_reducible refine xo_nil ?_
    with_reducible repeat (first | refine xq_then ?_ | refine xq_blockN ?_ | refine xq_scopeN ?_)
    with_reducible repeat refine xc_seq ?_
    with_reducible refine xc_ret ?_
    with_reducible repeat (first | refine xq_thenR ?_ | refine xq_blockR ?_ | refine xq_scopeR ?_)
    simp only [Bool.not_eq_true'] at hrec
    exact xq_ret1 rfl rfl fun w' hw => ⟨by rw [checkF, hrec]; rfl, hw.kx.below⟩
  simp only [Bool.not_eq_false'] at hrec
  with_reducible refine xc_skip ?_
  with_reducible repeat (first | refine xq_then ?_ | refine xq_blockN ?_ | refine xq_scopeN ?_)
  with_reducible repeat refine xc_seq ?_
  with_reducible refine xc_region ?_
  refine xo_mv rfl rfl rfl ?_
  refine xo_len T_ rfl rfl rfl rfl ?_
  refine xo_gtr rfl rfl rfl rfl ?_
  with_reducible refine xo_nil ?_
  with_reducible repeat (first | refine xq_then ?_ | refine xq_blockN ?_ | refine xq_scopeN ?_)
  with_reducible repeat refine xc_seq ?_
  refine xc_cond rfl (fun h20 => ?_) (fun h20 => ?_)
  · with_reducible repeat refine xc_seq ?_
    with_reducible refine xc_region ?_
    refine xo_asg rfl rfl rfl ?_
    with_reducible refine xo_nil ?_
    with_reducible repeat (first | refine xq_then ?_ | refine xq_blockN ?_ | refine xq_scopeN ?_)
    with_reducible repeat refine xc_seq ?_
    with_reducible refine xc_ret ?_
    with_reducible repeat (first | refine xq_thenR ?_ | refine xq_blockR ?_ | refine xq_scopeR ?_)
    have h20 := of_decide_eq_true h20
    refine xq_ret1 rfl rfl fun w' hw => ⟨?_, hw.kx.below⟩
    have : lettersF r (-1) 0 l = false := by
      cases h1 : lettersF r (-1) 0 l with
      | false => rfl
      | true =>
        rcases lettersF_len l _ _ h1 with rfl | h2
        · simp at h20
        · omega
    rw [checkF, hrec, this]
    rfl
  have h20 := of_decide_eq_false h20
  with_reducible refine xc_skip ?_
  with_reducible repeat (first | refine xq_then ?_ | refine xq_blockN ?_ | refine xq_scopeN ?_)
  with_reducible repeat refine xc_seq ?_
  with_reducible refine xc_region ?_
  refine xo_asg rfl rfl rfl ?_
  with_reducible refine xo_nil ?_
  with_reducible repeat (first | refine xq_then ?_ | refine xq_blockN ?_ | refine xq_scopeN ?_)
  with_reducible repeat refine xc_seq ?_
  with_reducible refine xc_block ?_
  refine xc_loop (γ := Nat) (fun k => k ≤ l.length ∧ (∀ i, i < k → 0 ≤ (l.getD i zLet).f0) ∧ lettersF r (-1) 0 l = lettersF r (pastL l k) (k : Int) (l.drop k)) (fun k => [(0, .slice A r.length c), (1, .slice B l.length c'), (5, .int .i64 (k : Int))]) (fun _ => []) (fun k => l.length - k) 0
    ⟨Nat.zero_le _, fun j hj => absurd hj (by simp), rfl⟩ ⟨rfl, rfl, rfl, trivial⟩ (List.Sublist.refl _) ?_
  rintro k ⟨hk1, h0, hlet⟩
  with_reducible repeat refine xc_seq ?_
  with_reducible refine xc_region ?_
  refine xo_mv rfl rfl rfl ?_
  refine xo_mv rfl rfl rfl ?_
  refine xo_len T_ rfl rfl rfl rfl ?_
  refine xo_lss rfl rfl rfl rfl ?_
  with_reducible refine xo_nil ?_
  with_reducible repeat (first | refine xq_then ?_ | refine xq_blockN ?_ | refine xq_scopeN ?_)
  with_reducible repeat refine xc_seq ?_
  refine xc_cond rfl (fun h => ?_) (fun h => ?_)
  · have hlt : k < l.length := by have := of_decide_eq_true h; omega
    obtain ⟨ad, rfl, r1⟩ := let_at hl k hlt
    have hby := hkl _ (getD_mem l zLet k hlt)
    have hprev : decide (0 < (k : Int)) = true → 0 < (k : Int) ∧ RO w XNone (ad.add (((k : Int) - 1).toNat * szN 4)) (letV (l.getD (k - 1) zLet)) := fun h => ⟨of_decide_eq_true h, let_at' hl k hlt (of_decide_eq_true h)⟩
    rw [drop_at l zLet k hlt, lettersF, badL_step (by omega) h0] at hlet
    have hp1 : pastL l (k + 1) = (l.getD k zLet).f0 := by simp [pastL]
    have hxid : (l.getD k zLet).f0 = (l.getD k zLet).f0 := rfl
    generalize hx : l.getD k zLet = x at *
    with_reducible refine xc_skip ?_
    with_reducible repeat (first | refine xq_then ?_ | refine xq_blockN ?_ | refine xq_scopeN ?_)
    with_reducible repeat refine xc_seq ?_
    with_reducible refine xc_block ?_
    with_reducible repeat refine xc_seq ?_
    with_reducible refine xc_region ?_
    refine xo_mv rfl rfl rfl ?_
    refine xo_mv rfl rfl rfl ?_
    refine xo_ia T_ rfl rfl rfl rfl rfl ⟨by omega, by omega⟩ rfl ?_
    refine xo_loadRN T_ rfl rfl rfl (by assumption) rfl rfl ?_
    refine xo_alloc T_ rfl rfl rfl rfl (fun b6 => ?_)
    refine xo_store T_ rfl rfl rfl rfl (by repeat (first | exact List.Mem.head _ | apply List.Mem.tail | apply List.mem_append_right)) rfl rfl rfl rfl (by repeat (first | exact Upd.head | apply Upd.tail | apply Upd.app)) rfl ?_
    with_reducible refine xo_nil ?_
    with_reducible repeat (first | refine xq_then ?_ | refine xq_blockN ?_ | refine xq_scopeN ?_)
    refine xc_cut (γ := Unit) (fun _ => True) (fun _ => [(0, .slice A r.length c), (1, .slice (some ad) l.length c'), (5, .int .i64 (k : Int)), (61, .bool (badL r l k x))]) (fun _ => []) ?_ (fun _ _ => ?_)
    · rcases split6 (!inF 0 9999 x.f0) (decide (0 < (k : Int))) (decide (x.f0 ≤ (l.getD (k - 1) zLet).f0)) (!inF 0 100000 x.f1) (decide (atF r x.f2 < 0)) (!inF 1 2 x.f3) with
        ⟨h1, hB⟩ | ⟨h1, h2, h3, hB⟩ | ⟨h1, h2, h3, h4, hB⟩ | ⟨h1, h2, h3, h4, h5, hB⟩ | ⟨h1, h2, h3, h4, h5, h6, hB⟩ | ⟨h1, h2, h3, h4, h5, h6, hB⟩ | ⟨h1, h2, h4, hB⟩ | ⟨h1, h2, h4, h5, hB⟩ | ⟨h1, h2, h4, h5, h6, hB⟩ | ⟨h1, h2, h4, h5, h6, hB⟩
      all_goals
        try (have q := hprev h2; obtain ⟨h2', r2⟩ := q)
        with_reducible repeat refine xc_seq ?_
        apply xc_drawN
        · exact T_.mixed
        · rfl
        · rfl
        · rfl
        · rfl
        · apply DrawOps.cons
          · intro τ
            refine xo_fa T_ rfl rfl rfl rfl rfl ?_
            exact xo_fin rfl
          apply DrawOps.cons
          · intro τ
            refine xo_load0 T_ rfl rfl rfl (by repeat (first | exact List.Mem.head _ | apply List.Mem.tail | apply List.mem_append_right)) rfl rfl ?_
            exact xo_fin rfl
          apply DrawOps.cons
          · intro τ
            refine xo_callB (fs := []) (cs := []) rfl rfl rfl within_enters rfl (fun w1 hw1 => within_calls _ _ _ w1) ?_
            exact xo_fin rfl
          apply DrawOps.cons
          · intro τ
            refine xo_notOp rfl rfl rfl ?_
            first
              | exact xo_fin (congrArg Value.bool h1)
              | exact xo_fin rfl
          apply DrawOps.cons
          · intro τ
            refine xo_mv rfl rfl rfl ?_
            exact xo_fin rfl
          apply DrawOps.cons
          · intro τ
            first
              | refine xo_not rfl rfl ?_
              | (refine xo_mv rfl rfl rfl ?_)
            exact xo_fin rfl
          apply DrawOps.cons
          · intro τ
            first
              | refine xo_not rfl rfl ?_
              | (refine xo_gtr rfl rfl rfl rfl ?_)
            first
              | exact xo_fin (congrArg Value.bool h2)
              | exact xo_fin rfl
          apply DrawOps.cons
          · intro τ
            first
              | refine xo_not rfl rfl ?_
              | (refine xo_mv rfl rfl rfl ?_)
            exact xo_fin rfl
          apply DrawOps.cons
          · intro τ
            first
              | refine xo_not rfl rfl ?_
              | (refine xo_fa T_ rfl rfl rfl rfl rfl ?_)
            exact xo_fin rfl
          apply DrawOps.cons
          · intro τ
            first
              | refine xo_not rfl rfl ?_
              | (refine xo_load0 T_ rfl rfl rfl (by repeat (first | exact List.Mem.head _ | apply List.Mem.tail | apply List.mem_append_right)) rfl rfl ?_)
            exact xo_fin rfl
          apply DrawOps.cons
          · intro τ
            first
              | refine xo_not rfl rfl ?_
              | (refine xo_mv rfl rfl rfl ?_)
            exact xo_fin rfl
          apply DrawOps.cons
          · intro τ
            first
              | refine xo_not rfl rfl ?_
              | (refine xo_mv rfl rfl rfl ?_)
            exact xo_fin rfl
          apply DrawOps.cons
          · intro τ
            first
              | refine xo_not rfl rfl ?_
              | (refine xo_sub rfl rfl rfl (by omega) rfl ?_)
            exact xo_fin rfl
          apply DrawOps.cons
          · intro τ
            first
              | refine xo_not rfl rfl ?_
              | (refine xo_ia T_ rfl rfl rfl rfl rfl ⟨by omega, by omega⟩ rfl ?_)
            exact xo_fin rfl
          apply DrawOps.cons
          · intro τ
            first
              | refine xo_not rfl rfl ?_
              | (refine xo_faR T_ rfl rfl rfl rfl rfl ?_)
            exact xo_fin rfl
          apply DrawOps.cons
          · intro τ
            first
              | refine xo_not rfl rfl ?_
              | (refine xo_loadR0 T_ rfl rfl rfl (by first | assumption | exact RO.fld (by assumption) rfl) rfl ?_)
            exact xo_fin rfl
          apply DrawOps.cons
          · intro τ
            first
              | refine xo_not rfl rfl ?_
              | (refine xo_leq rfl rfl rfl rfl ?_)
            first
              | exact xo_fin (congrArg Value.bool h3)
              | exact xo_fin rfl
          apply DrawOps.cons
          · intro τ
            first
              | refine xo_not rfl rfl ?_
              | (first | refine xo_pickT rfl rfl rfl rfl ?_ | refine xo_pickF rfl rfl rfl rfl ?_)
            exact xo_fin rfl
          apply DrawOps.cons
          · intro τ
            first | refine xo_pickT rfl rfl rfl rfl ?_ | refine xo_pickF rfl rfl rfl rfl ?_
            exact xo_fin rfl
          apply DrawOps.cons
          · intro τ
            refine xo_mv rfl rfl rfl ?_
            exact xo_fin rfl
          apply DrawOps.cons
          · intro τ
            first
              | refine xo_not rfl rfl ?_
              | (refine xo_fa T_ rfl rfl rfl rfl rfl ?_)
            exact xo_fin rfl
          apply DrawOps.cons
          · intro τ
            first
              | refine xo_not rfl rfl ?_
              | (refine xo_load0 T_ rfl rfl rfl (by repeat (first | exact List.Mem.head _ | apply List.Mem.tail | apply List.mem_append_right)) rfl rfl ?_)
            exact xo_fin rfl
          apply DrawOps.cons
          · intro τ
            first
              | refine xo_not rfl rfl ?_
              | (refine xo_callB (fs := []) (cs := []) rfl rfl rfl within_enters rfl (fun w1 hw1 => within_calls _ _ _ w1) ?_)
            exact xo_fin rfl
          apply DrawOps.cons
          · intro τ
            first
              | refine xo_not rfl rfl ?_
              | (refine xo_notOp rfl rfl rfl ?_)
            first
              | exact xo_fin (congrArg Value.bool h4)
              | exact xo_fin rfl
          apply DrawOps.cons
          · intro τ
            first | refine xo_pickT rfl rfl rfl rfl ?_ | refine xo_pickF rfl rfl rfl rfl ?_
            exact xo_fin rfl
          apply DrawOps.cons
          · intro τ
            refine xo_mv rfl rfl rfl ?_
            exact xo_fin rfl
          apply DrawOps.cons
          · intro τ
            first
              | refine xo_not rfl rfl ?_
              | (refine xo_mv rfl rfl rfl ?_)
            exact xo_fin rfl
          apply DrawOps.cons
          · intro τ
            first
              | refine xo_not rfl rfl ?_
              | (refine xo_fa T_ rfl rfl rfl rfl rfl ?_)
            exact xo_fin rfl
          apply DrawOps.cons
          · intro τ
            first
              | refine xo_not rfl rfl ?_
              | (refine xo_load0 T_ rfl rfl rfl (by repeat (first | exact List.Mem.head _ | apply List.Mem.tail | apply List.mem_append_right)) rfl rfl ?_)
            exact xo_fin rfl
          apply DrawOps.cons
          · intro τ
            first
              | refine xo_not rfl rfl ?_
              | (refine xo_callB (fs := []) (cs := []) rfl rfl rfl at_enters rfl (fun w1 hw1 => at_calls _ _ _ _ w1 (Kd.C_below hr hw1.kx.below)) ?_)
            exact xo_fin rfl
          apply DrawOps.cons
          · intro τ
            first
              | refine xo_not rfl rfl ?_
              | (refine xo_lss rfl rfl rfl rfl ?_)
            first
              | exact xo_fin (congrArg Value.bool h5)
              | exact xo_fin rfl
          apply DrawOps.cons
          · intro τ
            first | refine xo_pickT rfl rfl rfl rfl ?_ | refine xo_pickF rfl rfl rfl rfl ?_
            exact xo_fin rfl
          apply DrawOps.cons
          · intro τ
            refine xo_mv rfl rfl rfl ?_
            exact xo_fin rfl
          apply DrawOps.cons
          · intro τ
            first
              | refine xo_not rfl rfl ?_
              | (refine xo_fa T_ rfl rfl rfl rfl rfl ?_)
            exact xo_fin rfl
          apply DrawOps.cons
          · intro τ
            first
              | refine xo_not rfl rfl ?_
              | (refine xo_load0 T_ rfl rfl rfl (by repeat (first | exact List.Mem.head _ | apply List.Mem.tail | apply List.mem_append_right)) rfl rfl ?_)
            exact xo_fin rfl
          apply DrawOps.cons
          · intro τ
            first
              | refine xo_not rfl rfl ?_
              | (refine xo_conv T_ rfl rfl rfl rfl (IntWalk.i64_in _ ⟨by omega, by omega⟩) rfl ?_)
            exact xo_fin rfl
          apply DrawOps.cons
          · intro τ
            first
              | refine xo_not rfl rfl ?_
              | (refine xo_callB (fs := []) (cs := []) rfl rfl rfl within_enters rfl (fun w1 hw1 => within_calls _ _ _ w1) ?_)
            exact xo_fin rfl
          apply DrawOps.cons
          · intro τ
            first
              | refine xo_not rfl rfl ?_
              | (refine xo_notOp rfl rfl rfl ?_)
            first
              | exact xo_fin (congrArg Value.bool h6)
              | exact xo_fin rfl
          apply DrawOps.cons
          · intro τ
            first | refine xo_pickT rfl rfl rfl rfl ?_ | refine xo_pickF rfl rfl rfl rfl ?_
            exact xo_fin rfl
          exact DrawOps.nil
        · rfl
        with_reducible repeat (first | refine xq_then ?_ | refine xq_blockN ?_ | refine xq_scopeN ?_)
        exact xq_meet _ _ _ () trivial ⟨rfl, rfl, rfl, by rw [badL, hB]; rfl, trivial⟩ (by repeat (first | exact List.Sublist.refl _ | apply List.Sublist.cons_cons | apply List.Sublist.cons | exact List.nil_sublist _))
    with_reducible repeat refine xc_seq ?_
    refine xc_cond rfl (fun hb => ?_) (fun hb => ?_)
    · with_reducible repeat refine xc_seq ?_
      with_reducible refine xc_region ?_
      refine xo_asg rfl rfl rfl ?_
      with_reducible refine xo_nil ?_
      with_reducible repeat (first | refine xq_then ?_ | refine xq_blockN ?_ | refine xq_scopeN ?_)
      with_reducible repeat refine xc_seq ?_
      with_reducible refine xc_ret ?_
      with_reducible repeat (first | refine xq_thenR ?_ | refine xq_blockR ?_ | refine xq_scopeR ?_)
      exact xq_ret1 rfl rfl fun w' hw => ⟨by rw [checkF, hrec, hlet, hb]; rfl, hw.kx.below⟩
    with_reducible refine xc_skip ?_
    with_reducible repeat (first | refine xq_then ?_ | refine xq_blockN ?_ | refine xq_scopeN ?_)
    with_reducible repeat refine xc_seq ?_
    with_reducible refine xc_region ?_
    refine xo_mv rfl rfl rfl ?_
    refine xo_add rfl rfl rfl (by omega) rfl ?_
    refine xo_asg rfl rfl rfl ?_
    with_reducible refine xo_nil ?_
    with_reducible repeat (first | refine xq_then ?_ | refine xq_blockN ?_ | refine xq_scopeN ?_)
    refine xq_again _ _ _ _ _ (k + 1) ⟨by omega, fun i hi => ?_, ?_⟩ (by omega) ⟨rfl, rfl, rfl, trivial⟩ (List.Sublist.refl _)
    · by_cases e : i = k
      · subst e
        rw [hx]
        simp only [badL, Bool.or_eq_false_iff, Bool.not_eq_false', inF, Bool.and_eq_true, decide_eq_true_eq] at hb
        exact hb.1.1.1.1.1
      · exact h0 i (by omega)
    · rw [hlet, hb, hp1]; simp
  · have hge : ¬ k < l.length := by have := of_decide_eq_false h; omega
    with_reducible refine xc_exit ?_
    with_reducible repeat (first | refine xq_blockX ?_ | refine xq_thenE ?_ | refine xq_blockE rfl ?_ | refine xq_scopeE ?_)
    with_reducible repeat (first | refine xq_then ?_ | refine xq_blockN ?_ | refine xq_scopeN ?_)
    with_reducible repeat refine xc_seq ?_
    with_reducible refine xc_region ?_
    refine xo_asg rfl rfl rfl ?_
    with_reducible refine xo_nil ?_
    with_reducible repeat (first | refine xq_then ?_ | refine xq_blockN ?_ | refine xq_scopeN ?_)
    with_reducible repeat refine xc_seq ?_
    with_reducible refine xc_ret ?_
    with_reducible repeat (first | refine xq_thenR ?_ | refine xq_blockR ?_ | refine xq_scopeR ?_)
    exact xq_ret1 rfl rfl fun w' hw => ⟨by rw [checkF, hrec, hlet, List.drop_of_length_le (by omega)]; rfl, hw.kx.below⟩
theorem refCheck_enters : ∀ args w, (callFunc 12 args).run Try.prog w = .ok (.enter 12 args) w := enters_of Try.func12 (by kernel_rfl) rfl
end Go.Proofs.Ytcmepdamemnbkaa
