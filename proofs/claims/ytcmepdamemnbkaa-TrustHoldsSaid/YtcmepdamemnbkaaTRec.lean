/- trust.recorded: are records valid? -/
import Derived.Test.YtcmepdamemnbkaaTSpec
namespace Go.Proofs.Ytcmepdamemnbkaa
open Go.RowKit Go.Proofs.YtcmepdamemnbkaaW.PrintWords
set_option linter.unusedVariables false
set_option linter.unusedSimpArgs false
theorem min_most (k : Int) : (if mostF k < 1 then mostF k else 1) = if 3 ≤ k then 1 else 0 := by
  unfold mostF
  split <;> simp
set_option maxHeartbeats 4000000 in
theorem recorded_calls (A : Option Addr) (c : Nat) (r : List RecT) (w : World) (hr : Kd.C recK w A r.length r) (hk : Bytes r) :
    Calls Try.prog 31 #[.slice A r.length c] w fun e w' => e = .returned (.bool (recordedF r)) ∧ Below w.heap.size w w' := by
  have hn := hr.2.1
  refine x_calls (X := XNone) Try.func31 rfl rfl rfl ?_
  with_reducible repeat refine xc_seq ?_
  with_reducible refine xc_region ?_
  refine xo_asg rfl rfl rfl ?_
  with_reducible refine xo_nil ?_
  with_reducible repeat (first | refine xq_then ?_ | refine xq_blockN ?_ | refine xq_scopeN ?_)
  with_reducible repeat refine xc_seq ?_
  with_reducible refine xc_region ?_
  refine xo_asg rfl rfl rfl ?_
  with_reducible refine xo_nil ?_
  with_reducible repeat (first | refine xq_then ?_ | refine xq_blockN ?_ | refine xq_scopeN ?_)
  with_reducible repeat refine xc_seq ?_
  with_reducible refine xc_region ?_
  refine xo_mkm rfl rfl (fun b13 => ?_)
  refine xo_asg rfl rfl rfl ?_
  with_reducible refine xo_nil ?_
  with_reducible repeat (first | refine xq_then ?_ | refine xq_blockN ?_ | refine xq_scopeN ?_)
  with_reducible repeat refine xc_seq ?_
  with_reducible refine xc_region ?_
  refine xo_mv rfl rfl rfl ?_
  refine xo_len T_ rfl rfl rfl rfl ?_
  refine xo_mv rfl rfl rfl ?_
  with_reducible refine xo_nil ?_
  with_reducible repeat (first | refine xq_then ?_ | refine xq_blockN ?_ | refine xq_scopeN ?_)
  with_reducible repeat refine xc_seq ?_
  with_reducible refine xc_block ?_
  refine xc_loop (γ := Nat × List Int × Int) (fun q => q.1 ≤ r.length ∧ -1 ≤ q.2.2 ∧ q.2.2 ≤ 9999 ∧ recF [] (-1) r = recF q.2.1 q.2.2 (r.drop q.1)) (fun q => [(0, .slice A r.length c), (3, .int .i64 q.2.2), (4, .map (some b13)), (14, .slice A r.length c), (15, .int .i64 (r.length : Int)), (16, .int .i64 (q.1 : Int))]) (fun q => [(b13, true, hmap (setV q.2.1))]) (fun q => r.length - q.1) (0, [], -1)
    ⟨Nat.zero_le _, by simp, by simp, rfl⟩ ⟨rfl, rfl, rfl, rfl, rfl, rfl, trivial⟩ (by repeat (first | exact List.Sublist.refl _ | apply List.Sublist.cons₂ | apply List.Sublist.cons | exact List.nil_sublist _)) ?_
  rintro ⟨k, bs, last⟩ ⟨hk1, hl0, hl1, hrec⟩
  simp only at hk1 hl0 hl1 hrec ⊢
  with_reducible repeat refine xc_seq ?_
  with_reducible refine xc_region ?_
  refine xo_lss rfl rfl rfl rfl ?_
  with_reducible refine xo_nil ?_
  with_reducible repeat (first | refine xq_then ?_ | refine xq_blockN ?_ | refine xq_scopeN ?_)
  with_reducible repeat refine xc_seq ?_
  refine xc_cond rfl (fun h => ?_) (fun h => ?_)
  · have hlt : k < r.length := by have := of_decide_eq_true h; omega
    obtain ⟨ad, A2, c2, rfl, r1, hc2, hw2⟩ := rec_at hr k hlt
    have hby := hk _ (getD_mem r zRec k hlt)
    rw [drop_at r zRec k hlt] at hrec
    generalize r.getD k zRec = x at *
    have hm2 := hw2.2.1
    with_reducible refine xc_skip ?_
    with_reducible repeat (first | refine xq_then ?_ | refine xq_blockN ?_ | refine xq_scopeN ?_)
    with_reducible repeat refine xc_seq ?_
    with_reducible refine xc_block ?_
    with_reducible repeat refine xc_seq ?_
    with_reducible refine xc_region ?_
    refine xo_ia T_ rfl rfl rfl rfl rfl ⟨by omega, by omega⟩ rfl ?_
    refine xo_loadRN T_ rfl rfl rfl (by assumption) rfl rfl ?_
    refine xo_alloc T_ rfl rfl rfl rfl (fun b6 => ?_)
    refine xo_store T_ rfl rfl rfl rfl (by repeat (first | exact List.Mem.head _ | apply List.Mem.tail | apply List.mem_append_right)) rfl rfl rfl rfl (by repeat (first | exact Upd.head | apply Upd.tail | apply Upd.app)) rfl ?_
    with_reducible refine xo_nil ?_
    with_reducible repeat (first | refine xq_then ?_ | refine xq_blockN ?_ | refine xq_scopeN ?_)
    with_reducible repeat refine xc_seq ?_
    with_reducible refine xc_region ?_
    refine xo_asg rfl rfl rfl ?_
    with_reducible refine xo_nil ?_
    with_reducible repeat (first | refine xq_then ?_ | refine xq_blockN ?_ | refine xq_scopeN ?_)
    refine xc_cut (γ := Unit) (fun _ => True) (fun _ => [(0, .slice (some ad) r.length c), (3, .int .i64 last), (4, .map (some b13)), (6, .pointer (some ⟨b6, 0, none⟩)), (7, .int .i64 (mostF x.f1)), (14, .slice (some ad) r.length c), (15, .int .i64 (r.length : Int)), (16, .int .i64 (k : Int))]) (fun _ => [(b6, true, cel (recV x A2 c2) 43), (b13, true, hmap (setV bs))]) ?_ (fun _ _ => ?_)
    · with_reducible repeat refine xc_seq ?_
      with_reducible refine xc_region ?_
      refine xo_fa T_ rfl rfl rfl rfl rfl ?_
      refine xo_load0 T_ rfl rfl rfl (by repeat (first | exact List.Mem.head _ | apply List.Mem.tail | apply List.mem_append_right)) rfl rfl ?_
      refine xo_geq rfl rfl rfl rfl ?_
      with_reducible refine xo_nil ?_
      with_reducible repeat (first | refine xq_then ?_ | refine xq_blockN ?_ | refine xq_scopeN ?_)
      with_reducible repeat refine xc_seq ?_
      refine xc_cond rfl (fun h3 => ?_) (fun h3 => ?_)
      · with_reducible repeat refine xc_seq ?_
        with_reducible refine xc_region ?_
        refine xo_asg rfl rfl rfl ?_
        with_reducible refine xo_nil ?_
        with_reducible repeat (first | refine xq_then ?_ | refine xq_blockN ?_ | refine xq_scopeN ?_)
        exact xq_meet _ _ _ () trivial ⟨rfl, rfl, rfl, rfl, by simp only [mostF, if_pos (of_decide_eq_true h3)]; rfl, rfl, rfl, rfl, trivial⟩ (by repeat (first | exact List.Sublist.refl _ | apply List.Sublist.cons₂ | apply List.Sublist.cons | exact List.nil_sublist _))
      · with_reducible refine xc_skip ?_
        with_reducible repeat (first | refine xq_then ?_ | refine xq_blockN ?_ | refine xq_scopeN ?_)
        exact xq_meet _ _ _ () trivial ⟨rfl, rfl, rfl, rfl, by simp only [mostF, if_neg (of_decide_eq_false h3)]; rfl, rfl, rfl, rfl, trivial⟩ (by repeat (first | exact List.Sublist.refl _ | apply List.Sublist.cons₂ | apply List.Sublist.cons | exact List.nil_sublist _))
    cases h1 : !inF (last + 1) 9999 x.f0 <;> cases h2 : !inF 1 4 x.f1 <;> cases h3 : !inF (if 3 ≤ x.f1 then 1 else 0) (mostF x.f1) x.f2.length
    all_goals
      with_reducible repeat refine xc_seq ?_
      with_reducible refine xc_region ?_
      refine xo_mv rfl rfl rfl ?_
      refine xo_add rfl rfl rfl (by omega) rfl ?_
      refine xo_fa T_ rfl rfl rfl rfl rfl ?_
      refine xo_load0 T_ rfl rfl rfl (by repeat (first | exact List.Mem.head _ | apply List.Mem.tail | apply List.mem_append_right)) rfl rfl ?_
      refine xo_bs1 T_ rfl rfl rfl rfl rfl rfl rfl rfl (fun b27 => ?_)
      refine xo_callB (fs := []) (cs := []) rfl rfl rfl in_enters rfl (fun w1 hw1 => in_calls hw1 _ _ _ (by repeat (first | exact List.Mem.head _ | apply List.Mem.tail | apply List.mem_append_right))) ?_
      refine xo_notOp rfl rfl rfl ?_
      refine xo_mv rfl rfl rfl ?_
      refine xo_as (i := 30) rfl (congrArg Value.bool h1) ?_
      first
        | refine xo_not rfl rfl ?_
        | (refine xo_fa T_ rfl rfl rfl rfl rfl ?_)
      first
        | refine xo_not rfl rfl ?_
        | (refine xo_load0 T_ rfl rfl rfl (by repeat (first | exact List.Mem.head _ | apply List.Mem.tail | apply List.mem_append_right)) rfl rfl ?_)
      first
        | refine xo_not rfl rfl ?_
        | (refine xo_conv T_ rfl rfl rfl rfl (IntWalk.i64_in _ ⟨by omega, by omega⟩) rfl ?_)
      first
        | refine xo_not rfl rfl ?_
        | (refine xo_bs1 T_ rfl rfl rfl rfl rfl rfl rfl rfl (fun b34 => ?_))
      first
        | refine xo_not rfl rfl ?_
        | (refine xo_callB (fs := []) (cs := []) rfl rfl rfl in_enters rfl (fun w1 hw1 => in_calls hw1 _ _ _ (by repeat (first | exact List.Mem.head _ | apply List.Mem.tail | apply List.mem_append_right))) ?_)
      first
        | refine xo_not rfl rfl ?_
        | (refine xo_notOp rfl rfl rfl ?_)
      first | refine xo_pickT rfl rfl rfl rfl ?_ | refine xo_pickF rfl rfl rfl rfl ?_
      refine xo_mv rfl rfl rfl ?_
      first | refine xo_as (i := 38) rfl (congrArg Value.bool h2) ?_ | skip
      first
        | refine xo_not rfl rfl ?_
        | (refine xo_mv rfl rfl rfl ?_)
      first
        | refine xo_not rfl rfl ?_
        | (refine xo_min rfl rfl rfl rfl ?_)
      first | refine xo_as (i := 40) rfl (congrArg (Value.int .i64) (min_most x.f1)) ?_ | skip
      first
        | refine xo_not rfl rfl ?_
        | (refine xo_mv rfl rfl rfl ?_)
      first
        | refine xo_not rfl rfl ?_
        | (refine xo_fa T_ rfl rfl rfl rfl rfl ?_)
      first
        | refine xo_not rfl rfl ?_
        | (refine xo_load0 T_ rfl rfl rfl (by repeat (first | exact List.Mem.head _ | apply List.Mem.tail | apply List.mem_append_right)) rfl rfl ?_)
      first
        | refine xo_not rfl rfl ?_
        | (refine xo_len T_ rfl rfl rfl rfl ?_)
      first
        | refine xo_not rfl rfl ?_
        | (refine xo_bs1 T_ rfl rfl rfl rfl rfl rfl rfl rfl (fun b45 => ?_))
      first
        | refine xo_not rfl rfl ?_
        | (refine xo_callB (fs := []) (cs := []) rfl rfl rfl in_enters rfl (fun w1 hw1 => in_calls hw1 _ _ _ (by repeat (first | exact List.Mem.head _ | apply List.Mem.tail | apply List.mem_append_right))) ?_)
      first
        | refine xo_not rfl rfl ?_
        | (refine xo_notOp rfl rfl rfl ?_)
      first | refine xo_pickT rfl rfl rfl rfl ?_ | refine xo_pickF rfl rfl rfl rfl ?_
      first | refine xo_as (i := 48) rfl (congrArg Value.bool h3) ?_ | skip
      with_reducible refine xo_nil ?_
      with_reducible repeat (first | refine xq_then ?_ | refine xq_blockN ?_ | refine xq_scopeN ?_)
      with_reducible repeat refine xc_seq ?_
      first | refine xc_condT rfl ?_ | refine xc_condF rfl ?_
    rotate_left
    iterate 7
      · with_reducible repeat refine xc_seq ?_
        with_reducible refine xc_region ?_
        refine xo_asg rfl rfl rfl ?_
        with_reducible refine xo_nil ?_
        with_reducible repeat (first | refine xq_then ?_ | refine xq_blockN ?_ | refine xq_scopeN ?_)
        with_reducible repeat refine xc_seq ?_
        with_reducible refine xc_ret ?_
        with_reducible repeat (first | refine xq_thenR ?_ | refine xq_blockR ?_ | refine xq_scopeR ?_)
        refine xq_ret1 rfl rfl fun w' hw => ⟨?_, hw.kx.below⟩
        rw [recordedF, hrec, recF]
        simp only [Bool.not_eq_true', Bool.not_eq_false'] at h1 h2 h3
        simp only [h1, h2, h3, Bool.false_and, Bool.and_false]
    simp only [Bool.not_eq_true', Bool.not_eq_false'] at h1 h2 h3
    have hx0 : last + 1 ≤ x.f0 ∧ x.f0 ≤ 9999 := by simpa [inF] using h1
    have hrec2 : recF [] (-1) r = (waysF bs x.f2 && recF (insN x.f0 bs) x.f0 (r.drop (k + 1))) := by rw [hrec, recF]; simp only [h1, h2, h3, Bool.true_and]
    clear hrec
    with_reducible refine xc_skip ?_
    with_reducible repeat (first | refine xq_then ?_ | refine xq_blockN ?_ | refine xq_scopeN ?_)
    with_reducible repeat refine xc_seq ?_
    with_reducible refine xc_region ?_
    refine xo_fa T_ rfl rfl rfl rfl rfl ?_
    refine xo_load0 T_ rfl rfl rfl (by repeat (first | exact List.Mem.head _ | apply List.Mem.tail | apply List.mem_append_right)) rfl rfl ?_
    refine xo_len T_ rfl rfl rfl rfl ?_
    refine xo_mv rfl rfl rfl ?_
    with_reducible refine xo_nil ?_
    with_reducible repeat (first | refine xq_then ?_ | refine xq_blockN ?_ | refine xq_scopeN ?_)
    with_reducible repeat refine xc_seq ?_
    with_reducible refine xc_block ?_
    refine xc_loop (γ := Nat) (fun j => j ≤ x.f2.length ∧ waysF bs x.f2 = waysF bs (x.f2.drop j)) (fun j => [(0, .slice (some ad) r.length c), (3, .int .i64 last), (4, .map (some b13)), (6, .pointer (some ⟨b6, 0, none⟩)), (14, .slice (some ad) r.length c), (15, .int .i64 (r.length : Int)), (16, .int .i64 (k : Int)), (50, .slice A2 x.f2.length c2), (51, .int .i64 (x.f2.length : Int)), (52, .int .i64 (j : Int))])
      (fun _ => [(b6, true, cel (recV x A2 c2) 43), (b13, true, hmap (setV bs))]) (fun j => x.f2.length - j) 0 ⟨Nat.zero_le _, rfl⟩ ⟨rfl, rfl, rfl, rfl, rfl, rfl, rfl, rfl, rfl, rfl, trivial⟩ (by repeat (first | exact List.Sublist.refl _ | apply List.Sublist.cons₂ | apply List.Sublist.cons | exact List.nil_sublist _)) ?_
    rintro j ⟨hj, hways⟩
    with_reducible repeat refine xc_seq ?_
    with_reducible refine xc_region ?_
    refine xo_lss rfl rfl rfl rfl ?_
    with_reducible refine xo_nil ?_
    with_reducible repeat (first | refine xq_then ?_ | refine xq_blockN ?_ | refine xq_scopeN ?_)
    with_reducible repeat refine xc_seq ?_
    refine xc_cond rfl (fun hj2 => ?_) (fun hj2 => ?_)
    · have hjl : j < x.f2.length := by have := of_decide_eq_true hj2; omega
      obtain ⟨ad2, A3, c3, rfl, r2, hc3, hw3⟩ := way_at hw2 j hjl
      rw [drop_at x.f2 [] j hjl] at hways
      generalize x.f2.getD j [] = way at *
      have hm3 := hw3.2.1
      with_reducible refine xc_skip ?_
      with_reducible repeat (first | refine xq_then ?_ | refine xq_blockN ?_ | refine xq_scopeN ?_)
      with_reducible repeat refine xc_seq ?_
      with_reducible refine xc_block ?_
      with_reducible repeat refine xc_seq ?_
      with_reducible refine xc_region ?_
      refine xo_ia T_ rfl rfl rfl rfl rfl ⟨by omega, by omega⟩ rfl ?_
      refine xo_loadR0 T_ rfl rfl rfl (by assumption) rfl ?_
      refine xo_asg rfl rfl rfl ?_
      with_reducible refine xo_nil ?_
      with_reducible repeat (first | refine xq_then ?_ | refine xq_blockN ?_ | refine xq_scopeN ?_)
      with_reducible repeat refine xc_seq ?_
      with_reducible refine xc_region ?_
      refine xo_asg rfl rfl rfl ?_
      with_reducible refine xo_nil ?_
      with_reducible repeat (first | refine xq_then ?_ | refine xq_blockN ?_ | refine xq_scopeN ?_)
      with_reducible repeat refine xc_seq ?_
      with_reducible refine xc_region ?_
      refine xo_mv rfl rfl rfl ?_
      refine xo_len T_ rfl rfl rfl rfl ?_
      refine xo_mv rfl rfl rfl ?_
      with_reducible refine xo_nil ?_
      with_reducible repeat (first | refine xq_then ?_ | refine xq_blockN ?_ | refine xq_scopeN ?_)
      with_reducible repeat refine xc_seq ?_
      with_reducible refine xc_block ?_
      refine xc_loop (γ := Nat × Int) (fun q => q.1 ≤ way.length ∧ wayF bs (-1) way = wayF bs q.2 (way.drop q.1)) (fun q => [(0, .slice (some ad) r.length c), (3, .int .i64 last), (4, .map (some b13)), (6, .pointer (some ⟨b6, 0, none⟩)), (14, .slice (some ad) r.length c), (15, .int .i64 (r.length : Int)), (16, .int .i64 (k : Int)), (50, .slice (some ad2) x.f2.length c2), (51, .int .i64 (x.f2.length : Int)), (52, .int .i64 (j : Int)), (9, .slice A3 way.length c3), (10, .int .i64 q.2), (56, .slice A3 way.length c3), (57, .int .i64 (way.length : Int)), (58, .int .i64 (q.1 : Int))])
        (fun _ => [(b6, true, cel (recV x (some ad2) c2) 43), (b13, true, hmap (setV bs))]) (fun q => way.length - q.1) (0, -1) ⟨Nat.zero_le _, rfl⟩ ⟨rfl, rfl, rfl, rfl, rfl, rfl, rfl, rfl, rfl, rfl, rfl, rfl, rfl, rfl, rfl, trivial⟩ (by repeat (first | exact List.Sublist.refl _ | apply List.Sublist.cons₂ | apply List.Sublist.cons | exact List.nil_sublist _)) ?_
      rintro ⟨i, past⟩ ⟨hi, hway⟩
      simp only at hi hway ⊢
      with_reducible repeat refine xc_seq ?_
      with_reducible refine xc_region ?_
      refine xo_lss rfl rfl rfl rfl ?_
      with_reducible refine xo_nil ?_
      with_reducible repeat (first | refine xq_then ?_ | refine xq_blockN ?_ | refine xq_scopeN ?_)
      with_reducible repeat refine xc_seq ?_
      refine xc_cond rfl (fun hi2 => ?_) (fun hi2 => ?_)
      · have hil : i < way.length := by have := of_decide_eq_true hi2; omega
        obtain ⟨ad3, rfl, r3⟩ := int_at hw3 i hil
        rw [drop_at way 0 i hil] at hway
        generalize way.getD i 0 = y at *
        with_reducible refine xc_skip ?_
        with_reducible repeat (first | refine xq_then ?_ | refine xq_blockN ?_ | refine xq_scopeN ?_)
        with_reducible repeat refine xc_seq ?_
        with_reducible refine xc_block ?_
        with_reducible repeat refine xc_seq ?_
        with_reducible refine xc_region ?_
        refine xo_ia T_ rfl rfl rfl rfl rfl ⟨by omega, by omega⟩ rfl ?_
        refine xo_loadR0 T_ rfl rfl rfl (by assumption) rfl ?_
        refine xo_asg rfl rfl rfl ?_
        with_reducible refine xo_nil ?_
        with_reducible repeat (first | refine xq_then ?_ | refine xq_blockN ?_ | refine xq_scopeN ?_)
        cases h4 : decide (y ≤ past) <;> cases h5 : !decide (y ∈ bs)
        all_goals
          with_reducible repeat refine xc_seq ?_
          with_reducible refine xc_region ?_
          refine xo_mv rfl rfl rfl ?_
          refine xo_mv rfl rfl rfl ?_
          refine xo_leq rfl rfl rfl rfl ?_
          refine xo_mv rfl rfl rfl ?_
          refine xo_as (i := 65) rfl (congrArg Value.bool h4) ?_
          first
            | refine xo_not rfl rfl ?_
            | (refine xo_mv rfl rfl rfl ?_)
          first
            | refine xo_not rfl rfl ?_
            | (refine xo_mv rfl rfl rfl ?_)
          first
            | refine xo_not rfl rfl ?_
            | (refine xo_sget T_ rfl rfl rfl rfl rfl rfl (by repeat (first | exact List.Mem.head _ | apply List.Mem.tail | apply List.mem_append_right)) rfl ?_)
          first
            | refine xo_not rfl rfl ?_
            | (refine xo_notOp rfl rfl rfl ?_)
          first | refine xo_pickT rfl rfl rfl rfl ?_ | refine xo_pickF rfl rfl rfl rfl ?_
          first | refine xo_as (i := 70) rfl (congrArg Value.bool h5) ?_ | skip
          with_reducible refine xo_nil ?_
          with_reducible repeat (first | refine xq_then ?_ | refine xq_blockN ?_ | refine xq_scopeN ?_)
          with_reducible repeat refine xc_seq ?_
          first | refine xc_condT rfl ?_ | refine xc_condF rfl ?_
        rotate_left
        iterate 3
          · with_reducible repeat refine xc_seq ?_
            with_reducible refine xc_region ?_
            refine xo_asg rfl rfl rfl ?_
            with_reducible refine xo_nil ?_
            with_reducible repeat (first | refine xq_then ?_ | refine xq_blockN ?_ | refine xq_scopeN ?_)
            with_reducible repeat refine xc_seq ?_
            with_reducible refine xc_ret ?_
            with_reducible repeat (first | refine xq_thenR ?_ | refine xq_blockR ?_ | refine xq_scopeR ?_)
            refine xq_ret1 rfl rfl fun w' hw => ⟨?_, hw.kx.below⟩
            rw [recordedF, hrec2, hways, waysF, List.all_cons, hway, wayF]
            simp only [h4, h5, Bool.or_true, Bool.true_or, Bool.or_false, Bool.not_true, Bool.false_and]
        with_reducible refine xc_skip ?_
        with_reducible repeat (first | refine xq_then ?_ | refine xq_blockN ?_ | refine xq_scopeN ?_)
        with_reducible repeat refine xc_seq ?_
        with_reducible refine xc_region ?_
        refine xo_mv rfl rfl rfl ?_
        refine xo_asg rfl rfl rfl ?_
        with_reducible refine xo_nil ?_
        with_reducible repeat (first | refine xq_then ?_ | refine xq_blockN ?_ | refine xq_scopeN ?_)
        with_reducible repeat refine xc_seq ?_
        with_reducible refine xc_region ?_
        refine xo_add rfl rfl rfl (by omega) rfl ?_
        refine xo_mv rfl rfl rfl ?_
        with_reducible refine xo_nil ?_
        with_reducible repeat (first | refine xq_then ?_ | refine xq_blockN ?_ | refine xq_scopeN ?_)
        refine xq_again _ _ _ _ _ (i + 1, y) ⟨hil, ?_⟩ (by first | omega | (simp only; omega)) ⟨rfl, rfl, rfl, rfl, rfl, rfl, rfl, rfl, rfl, rfl, rfl, rfl, rfl, rfl, rfl, trivial⟩ (by repeat (first | exact List.Sublist.refl _ | apply List.Sublist.cons₂ | apply List.Sublist.cons | exact List.nil_sublist _))
        rw [hway, wayF]
        simp only [h4, h5, Bool.or_self, Bool.not_false, Bool.true_and]
      · have hige : ¬ i < way.length := by have := of_decide_eq_false hi2; omega
        rw [List.drop_of_length_le (by omega)] at hway
        with_reducible refine xc_exit ?_
        with_reducible repeat (first | refine xq_blockX ?_ | refine xq_thenE ?_ | refine xq_blockE rfl ?_ | refine xq_scopeE ?_)
        with_reducible repeat (first | refine xq_then ?_ | refine xq_blockN ?_ | refine xq_scopeN ?_)
        with_reducible repeat refine xc_seq ?_
        with_reducible refine xc_region ?_
        refine xo_mv rfl rfl rfl ?_
        refine xo_len T_ rfl rfl rfl rfl ?_
        refine xo_bs1 T_ rfl rfl rfl rfl rfl rfl rfl rfl (fun b75 => ?_)
        refine xo_callB (fs := []) (cs := []) rfl rfl rfl in_enters rfl (fun w1 hw1 => in_calls hw1 _ _ _ (by repeat (first | exact List.Mem.head _ | apply List.Mem.tail | apply List.mem_append_right))) ?_
        refine xo_notOp rfl rfl rfl ?_
        with_reducible refine xo_nil ?_
        with_reducible repeat (first | refine xq_then ?_ | refine xq_blockN ?_ | refine xq_scopeN ?_)
        with_reducible repeat refine xc_seq ?_
        refine xc_cond rfl (fun h6 => ?_) (fun h6 => ?_)
        · with_reducible repeat refine xc_seq ?_
          with_reducible refine xc_region ?_
          refine xo_asg rfl rfl rfl ?_
          with_reducible refine xo_nil ?_
          with_reducible repeat (first | refine xq_then ?_ | refine xq_blockN ?_ | refine xq_scopeN ?_)
          with_reducible repeat refine xc_seq ?_
          with_reducible refine xc_ret ?_
          with_reducible repeat (first | refine xq_thenR ?_ | refine xq_blockR ?_ | refine xq_scopeR ?_)
          refine xq_ret1 rfl rfl fun w' hw => ⟨?_, hw.kx.below⟩
          rw [recordedF, hrec2, hways, waysF, List.all_cons]
          simp only [Bool.not_eq_true'] at h6
          simp only [h6, Bool.and_false, Bool.false_and]
        · with_reducible refine xc_skip ?_
          with_reducible repeat (first | refine xq_then ?_ | refine xq_blockN ?_ | refine xq_scopeN ?_)
          with_reducible repeat refine xc_seq ?_
          with_reducible refine xc_region ?_
          refine xo_add rfl rfl rfl (by omega) rfl ?_
          refine xo_mv rfl rfl rfl ?_
          with_reducible refine xo_nil ?_
          with_reducible repeat (first | refine xq_then ?_ | refine xq_blockN ?_ | refine xq_scopeN ?_)
          refine xq_again _ _ _ _ _ (j + 1) ⟨hjl, ?_⟩ (by first | omega | (simp only; omega)) ⟨rfl, rfl, rfl, rfl, rfl, rfl, rfl, rfl, rfl, rfl, trivial⟩ (by repeat (first | exact List.Sublist.refl _ | apply List.Sublist.cons₂ | apply List.Sublist.cons | exact List.nil_sublist _))
          rw [hways, waysF, List.all_cons, hway, wayF]
          simp only [Bool.not_eq_false'] at h6
          simp only [h6, Bool.and_self, Bool.true_and]
          rfl
    · have hjge : ¬ j < x.f2.length := by have := of_decide_eq_false hj2; omega
      rw [List.drop_of_length_le (by omega)] at hways
      with_reducible refine xc_exit ?_
      with_reducible repeat (first | refine xq_blockX ?_ | refine xq_thenE ?_ | refine xq_blockE rfl ?_ | refine xq_scopeE ?_)
      with_reducible repeat (first | refine xq_then ?_ | refine xq_blockN ?_ | refine xq_scopeN ?_)
      with_reducible repeat refine xc_seq ?_
      with_reducible refine xc_region ?_
      refine xo_mv rfl rfl rfl ?_
      refine xo_fa T_ rfl rfl rfl rfl rfl ?_
      refine xo_load0 T_ rfl rfl rfl (by repeat (first | exact List.Mem.head _ | apply List.Mem.tail | apply List.mem_append_right)) rfl rfl ?_
      refine xo_sins T_ rfl rfl rfl rfl rfl rfl (by repeat (first | exact List.Mem.head _ | apply List.Mem.tail | apply List.mem_append_right)) (by repeat (first | exact Upd.head | apply Upd.tail | apply Upd.app)) rfl ?_
      with_reducible refine xo_nil ?_
      with_reducible repeat (first | refine xq_then ?_ | refine xq_blockN ?_ | refine xq_scopeN ?_)
      with_reducible repeat refine xc_seq ?_
      with_reducible refine xc_region ?_
      refine xo_fa T_ rfl rfl rfl rfl rfl ?_
      refine xo_load0 T_ rfl rfl rfl (by repeat (first | exact List.Mem.head _ | apply List.Mem.tail | apply List.mem_append_right)) rfl rfl ?_
      refine xo_asg rfl rfl rfl ?_
      with_reducible refine xo_nil ?_
      with_reducible repeat (first | refine xq_then ?_ | refine xq_blockN ?_ | refine xq_scopeN ?_)
      with_reducible repeat refine xc_seq ?_
      with_reducible refine xc_region ?_
      refine xo_add rfl rfl rfl (by omega) rfl ?_
      refine xo_mv rfl rfl rfl ?_
      with_reducible refine xo_nil ?_
      with_reducible repeat (first | refine xq_then ?_ | refine xq_blockN ?_ | refine xq_scopeN ?_)
      refine xq_again _ _ _ _ _ (k + 1, insN x.f0 bs, x.f0) ⟨hlt, by simp only; omega, hx0.2, ?_⟩ (by first | omega | (simp only; omega)) ⟨rfl, rfl, rfl, rfl, rfl, rfl, trivial⟩ (by repeat (first | exact List.Sublist.refl _ | apply List.Sublist.cons₂ | apply List.Sublist.cons | exact List.nil_sublist _))
      rw [hrec2, hways]
      rfl
  · have hge : ¬ k < r.length := by have := of_decide_eq_false h; omega
    rw [List.drop_of_length_le (by omega)] at hrec
    with_reducible refine xc_exit ?_
    with_reducible repeat (first | refine xq_blockX ?_ | refine xq_thenE ?_ | refine xq_blockE rfl ?_ | refine xq_scopeE ?_)
    with_reducible repeat (first | refine xq_then ?_ | refine xq_blockN ?_ | refine xq_scopeN ?_)
    with_reducible repeat refine xc_seq ?_
    with_reducible refine xc_region ?_
    refine xo_mv rfl rfl rfl ?_
    refine xo_len T_ rfl rfl rfl rfl ?_
    refine xo_leq rfl rfl rfl rfl ?_
    refine xo_asg rfl rfl rfl ?_
    with_reducible refine xo_nil ?_
    with_reducible repeat (first | refine xq_then ?_ | refine xq_blockN ?_ | refine xq_scopeN ?_)
    with_reducible repeat refine xc_seq ?_
    with_reducible refine xc_ret ?_
    with_reducible repeat (first | refine xq_thenR ?_ | refine xq_blockR ?_ | refine xq_scopeR ?_)
    refine xq_ret1 rfl rfl fun w' hw => ⟨?_, hw.kx.below⟩
    have e : decide ((r.length : Int) ≤ 12) = decide (r.length ≤ 12) := decide_eq_decide.2 (by omega)
    rw [recordedF, hrec, recF, Bool.true_and, ← e]
end Go.Proofs.Ytcmepdamemnbkaa
