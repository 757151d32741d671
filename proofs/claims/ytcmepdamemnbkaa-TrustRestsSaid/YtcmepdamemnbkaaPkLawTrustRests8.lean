/- trust.fewest: the walk. / what holds depends on what is gone by membership alone. Plain Lean. / SX: how many a set holds. No program in sight. / trust.Rests$1: what the search for what a record rests on asks of a set. / SX: a drawn region whose operations that make blocks come one after the other (each waits for the one before): the rest may come at any time. No program in sight. / trust.Causes$1: what the search for causes asks of a set. / who is withdrawn, in order; what the searches of the code and of the reference find is the same. Plain Lean. / trust.Rests. / trust.Causes. / law08.TrustRests: the walk. -/
import Derived.Test.YtcmepdamemnbkaaPkLawTrustRests7
import Derived.Test.YtcmepdamemnbkaaPkLawTrustRests6
namespace Go.Proofs.Ytcmepdamemnbkaa
open Go.RowKit Go.Proofs.YtcmepdamemnbkaaW.PrintWords
set_option linter.unusedVariables false
set_option linter.unusedSimpArgs false
theorem cmpRows {w0 w : World} {X : Nat → Prop} {η : Hp} (hw : WOK w0 X η w) {rr rr2 : RowR} {xs ys : List Int} (hl : xs.length ≤ 1000000) (he : xs.length = ys.length) (h1 : RowAt 3 0 w rr xs) (h2 : RowAt 3 0 w rr2 ys) :
    Calls Try.prog 55 ([] ++ [valR rr xs.length, valR rr2 ys.length] ++ []).toArray w fun e w' => e = .returned (.int .i64 (cmpF xs ys)) ∧ Below w.heap.size w w' := by
  obtain ⟨A, c, e1, _, hA⟩ := h1.C (by omega)
  obtain ⟨B, c2, e2, _, hB⟩ := h2.C (by omega)
  rw [e1, e2]
  exact compare_calls A B c c2 xs ys w hA hB he
theorem few_skip (a b : List Int) : (!aheadF a b) = (bif decide ((b.length : Int) < (a.length : Int)) then true else bif decide ((a.length : Int) = (b.length : Int)) then decide (0 ≤ cmpF a b) else false) := by
  unfold aheadF
  by_cases h1 : a.length = b.length
  · rw [if_pos h1, decide_eq_false (by omega), decide_eq_true (by omega : (a.length : Int) = (b.length : Int)), cmpF_lex]
    rfl
  · rw [if_neg h1, decide_eq_false (by omega : ¬ (a.length : Int) = (b.length : Int))]
    by_cases h2 : a.length < b.length
    · rw [decide_eq_true h2, decide_eq_false (by omega)]; rfl
    · rw [decide_eq_false h2, decide_eq_true (by omega)]; rfl
theorem few_len (xs : List Int) (p : List Int → Bool) : ∀ m, ((List.range m).foldl (fewStep (subM xs) p) ([], false)).1.length ≤ xs.length
  | 0 => by simp
  | m + 1 => by
    rw [List.range_succ, List.foldl_append, List.foldl_cons, List.foldl_nil, fewStep]
    split
    · exact few_len xs p m
    · split
      · exact (subM_sub xs m).length_le
      · exact few_len xs p m
set_option maxHeartbeats 16000000 in
theorem fewest_calls (p : List Int → Bool) (g : Nat) (cs : List Value) (eg : ∀ args w, (callFunc g args).run Try.prog w = .ok (.enter g args) w) (A : Option Addr) (c : Nat) (xs : List Int) (w : World) (hr : Kd.C (Kd.int .i64) w A xs.length xs) (hp : AsksM Try.prog w g cs p)
    (hn : xs.Nodup) (hs : xs.Pairwise fun a b => decide (a ≤ b) = true) (hlen : xs.length ≤ 12) :
    Calls Try.prog 37 #[.slice A xs.length c, .func (.func g) #[] cs.toArray] w fun e w' => ∃ rr : RowR, e = .returned (valR rr (fewestF xs p).length) ∧ RowAt 3 w.heap.size w' rr (fewestF xs p) ∧ Below w.heap.size w w' := by
  have h2n : 2 ^ xs.length ≤ 4096 := Nat.le_trans (Nat.pow_le_pow_right (by omega) hlen) (by decide)
  refine x_calls (X := XNone) Try.func37 rfl rfl rfl ?_
  with_reducible repeat refine xc_seq ?_
  with_reducible refine xc_region ?_
  refine xo_asg rfl rfl rfl ?_
  with_reducible refine xo_nil ?_
  with_reducible repeat (first | refine xq_then ?_ | refine xq_blockN ?_ | refine xq_scopeN ?_)
  with_reducible repeat refine xc_seq ?_
  with_reducible refine xc_region ?_
  refine xo_asg rfl rfl rfl ?_
  with_reducible refine xo_nil ?_
  with_reducible repeat (first | refine xq_then ?_ | refine xq_blockN ?_ | refine xq_scopeN ?_)
  with_reducible repeat refine xc_seq ?_
  with_reducible refine xc_region ?_
  refine xo_asg rfl rfl rfl ?_
  with_reducible refine xo_nil ?_
  with_reducible repeat (first | refine xq_then ?_ | refine xq_blockN ?_ | refine xq_scopeN ?_)
  with_reducible repeat refine xc_seq ?_
  with_reducible refine xc_region ?_
  refine xo_mv rfl rfl rfl ?_
  refine xo_len T_ rfl rfl rfl rfl ?_
  refine xo_shl1 rfl rfl rfl (by omega) rfl ?_
  refine xo_mv rfl rfl rfl ?_
  with_reducible refine xo_nil ?_
  with_reducible repeat (first | refine xq_then ?_ | refine xq_blockN ?_ | refine xq_scopeN ?_)
  with_reducible repeat refine xc_seq ?_
  with_reducible refine xc_block ?_
  refine xc_loop (γ := Nat × RowR) (fun q => q.1 ≤ 2 ^ xs.length ∧ (q.2 = none → ((List.range q.1).foldl (fewStep (subM xs) p) ([], false)).1 = [])) (fun q => [(0, .slice A xs.length c), (1, .func (.func g) #[] cs.toArray), (5, valR q.2 ((List.range q.1).foldl (fewStep (subM xs) p) ([], false)).1.length), (6, .bool ((List.range q.1).foldl (fewStep (subM xs) p) ([], false)).2), (14, .int .i64 ((2 ^ xs.length : Nat) : Int)), (15, .int .i64 (q.1 : Int))])
    (fun q => hpR 3 1 q.2 ((List.range q.1).foldl (fewStep (subM xs) p) ([], false)).1.length (((List.range q.1).foldl (fewStep (subM xs) p) ([], false)).1.map (.int .i64)) ++ []) (fun q => 2 ^ xs.length - q.1) (0, none) ⟨Nat.zero_le _, fun _ => rfl⟩ ⟨rfl, rfl, rfl, rfl, rfl, rfl, trivial⟩ (List.nil_sublist _) ?_
  rintro ⟨m, rr⟩ ⟨hm1, hrr⟩
  simp only at hm1 hrr ⊢
  have hstep : (List.range (m + 1)).foldl (fewStep (subM xs) p) ([], false) = fewStep (subM xs) p ((List.range m).foldl (fewStep (subM xs) p) ([], false)) m := by rw [List.range_succ, List.foldl_append]; rfl
  with_reducible repeat refine xc_seq ?_
  with_reducible refine xc_region ?_
  refine xo_lss rfl rfl rfl rfl ?_
  with_reducible refine xo_nil ?_
  with_reducible repeat (first | refine xq_then ?_ | refine xq_blockN ?_ | refine xq_scopeN ?_)
  with_reducible repeat refine xc_seq ?_
  refine xc_cond rfl (fun h => ?_) (fun h => ?_)
  · have hlt : m < 2 ^ xs.length := by have := of_decide_eq_true h; omega
    have hbl := few_len xs p m
    generalize (List.range m).foldl (fewStep (subM xs) p) ([], false) = st at *
    obtain ⟨best, f⟩ := st
    simp only at hbl hrr hstep ⊢
    with_reducible refine xc_skip ?_
    with_reducible repeat (first | refine xq_then ?_ | refine xq_blockN ?_ | refine xq_scopeN ?_)
    with_reducible repeat refine xc_seq ?_
    with_reducible refine xc_block ?_
    with_reducible repeat refine xc_seq ?_
    with_reducible refine xc_region ?_
    refine xo_mv rfl rfl rfl ?_
    refine xo_asg rfl rfl rfl ?_
    with_reducible refine xo_nil ?_
    with_reducible repeat (first | refine xq_then ?_ | refine xq_blockN ?_ | refine xq_scopeN ?_)
    with_reducible repeat refine xc_seq ?_
    with_reducible refine xc_region ?_
    refine xo_mkm rfl rfl (fun b18 => ?_)
    refine xo_asg rfl rfl rfl ?_
    with_reducible refine xo_nil ?_
    with_reducible repeat (first | refine xq_then ?_ | refine xq_blockN ?_ | refine xq_scopeN ?_)
    with_reducible repeat refine xc_seq ?_
    with_reducible refine xc_region ?_
    refine xo_mv rfl rfl rfl ?_
    refine xo_len T_ rfl rfl rfl rfl ?_
    refine xo_mv rfl rfl rfl ?_
    with_reducible refine xo_nil ?_
    with_reducible repeat (first | refine xq_then ?_ | refine xq_blockN ?_ | refine xq_scopeN ?_)
    with_reducible repeat refine xc_seq ?_
    with_reducible refine xc_block ?_
    refine xc_loop (γ := Nat) (fun i => i ≤ xs.length) (fun i => [(0, .slice A xs.length c), (1, .func (.func g) #[] cs.toArray), (5, valR rr best.length), (6, .bool f), (14, .int .i64 ((2 ^ xs.length : Nat) : Int)), (15, .int .i64 (m : Int)), (7, .int .i64 (m : Int)), (8, .map (some b18)), (19, .slice A xs.length c), (20, .int .i64 (xs.length : Int)), (21, .int .i64 (i : Int))])
      (fun i => (b18, true, hmap (setV (subK xs m i))) :: (hpR 3 1 rr best.length (best.map (.int .i64)) ++ [])) (fun i => xs.length - i) 0 (Nat.zero_le _) ⟨rfl, rfl, rfl, rfl, rfl, rfl, rfl, rfl, rfl, rfl, rfl, trivial⟩ (List.Sublist.refl _) ?_
    intro i hi
    with_reducible repeat refine xc_seq ?_
    with_reducible refine xc_region ?_
    refine xo_lss rfl rfl rfl rfl ?_
    with_reducible refine xo_nil ?_
    with_reducible repeat (first | refine xq_then ?_ | refine xq_blockN ?_ | refine xq_scopeN ?_)
    with_reducible repeat refine xc_seq ?_
    refine xc_cond rfl (fun h => ?_) (fun h => ?_)
    · have hil : i < xs.length := by have := of_decide_eq_true h; omega
      obtain ⟨ad, rfl, r1⟩ := int_at hr i hil
      have hsu := subK_succ hn m i hil
      with_reducible refine xc_skip ?_
      with_reducible repeat (first | refine xq_then ?_ | refine xq_blockN ?_ | refine xq_scopeN ?_)
      with_reducible repeat refine xc_seq ?_
      with_reducible refine xc_block ?_
      with_reducible repeat refine xc_seq ?_
      with_reducible refine xc_region ?_
      refine xo_mv rfl rfl rfl ?_
      refine xo_ia T_ rfl rfl rfl rfl rfl ⟨by omega, by omega⟩ rfl ?_
      refine xo_loadR0 T_ rfl rfl rfl (by first | assumption | exact RO.fld (by assumption) rfl) rfl ?_
      refine xo_asg rfl rfl rfl ?_
      refine xo_asg rfl rfl rfl ?_
      with_reducible refine xo_nil ?_
      with_reducible repeat (first | refine xq_then ?_ | refine xq_blockN ?_ | refine xq_scopeN ?_)
      with_reducible repeat refine xc_seq ?_
      with_reducible refine xc_region ?_
      refine xo_mv rfl rfl rfl ?_
      refine xo_mv rfl rfl rfl ?_
      refine xo_shr rfl rfl rfl (by omega) rfl ?_
      refine xo_and1 rfl rfl rfl (Nat.lt_of_le_of_lt (Nat.div_le_self _ _) (by omega)) rfl ?_
      refine xo_eql rfl rfl rfl rfl ?_
      with_reducible refine xo_nil ?_
      with_reducible repeat (first | refine xq_then ?_ | refine xq_blockN ?_ | refine xq_scopeN ?_)
      with_reducible repeat refine xc_seq ?_
      refine xc_cond rfl (fun hb => ?_) (fun hb => ?_)
      · have hb : bitB m i = true := hb
        rw [if_pos hb] at hsu
        with_reducible repeat refine xc_seq ?_
        with_reducible refine xc_region ?_
        refine xo_mv rfl rfl rfl ?_
        refine xo_mv rfl rfl rfl ?_
        refine xo_sins T_ rfl rfl rfl rfl rfl rfl (by repeat (first | exact List.Mem.head _ | apply List.Mem.tail | apply List.mem_append_right)) (by repeat (first | exact Upd.head | apply Upd.tail | apply Upd.app)) rfl ?_
        with_reducible refine xo_nil ?_
        with_reducible repeat (first | refine xq_then ?_ | refine xq_blockN ?_ | refine xq_scopeN ?_)
        with_reducible repeat refine xc_seq ?_
        with_reducible refine xc_region ?_
        refine xo_add rfl rfl rfl (by omega) rfl ?_
        refine xo_mv rfl rfl rfl ?_
        with_reducible refine xo_nil ?_
        with_reducible repeat (first | refine xq_then ?_ | refine xq_blockN ?_ | refine xq_scopeN ?_)
        exact xq_again _ _ _ _ _ (i + 1) (by omega) (by omega) ⟨rfl, rfl, rfl, rfl, rfl, rfl, rfl, rfl, rfl, rfl, rfl, trivial⟩ (by rw [hsu]; exact List.Sublist.refl _)
      · have hb : bitB m i = false := hb
        rw [hb, if_neg (by simp)] at hsu
        with_reducible refine xc_skip ?_
        with_reducible repeat (first | refine xq_then ?_ | refine xq_blockN ?_ | refine xq_scopeN ?_)
        with_reducible repeat refine xc_seq ?_
        with_reducible refine xc_region ?_
        refine xo_add rfl rfl rfl (by omega) rfl ?_
        refine xo_mv rfl rfl rfl ?_
        with_reducible refine xo_nil ?_
        with_reducible repeat (first | refine xq_then ?_ | refine xq_blockN ?_ | refine xq_scopeN ?_)
        exact xq_again _ _ _ _ _ (i + 1) (by omega) (by omega) ⟨rfl, rfl, rfl, rfl, rfl, rfl, rfl, rfl, rfl, rfl, rfl, trivial⟩ (by rw [hsu]; exact List.Sublist.refl _)
    · have hge : ¬ i < xs.length := by have := of_decide_eq_false h; omega
      have hii : i = xs.length := by omega
      subst hii
      rw [subK_full]
      have hrow := (subM_sub xs m).length_le
      have hsort := sortF_sub hs m
      have hnd : (subM xs m).Nodup := hn.sublist (subM_sub xs m)
      rw [fewStep] at hstep
      simp only at hstep
      with_reducible refine xc_exit ?_
      with_reducible repeat (first | refine xq_blockX ?_ | refine xq_thenE ?_ | refine xq_blockE rfl ?_ | refine xq_scopeE ?_)
      with_reducible repeat (first | refine xq_then ?_ | refine xq_blockN ?_ | refine xq_scopeN ?_)
      with_reducible repeat refine xc_seq ?_
      with_reducible refine xc_region ?_
      refine xo_mv rfl rfl rfl ?_
      refine xo_call (fs := []) (cs := []) rfl rfl rfl keys_enters rfl (fun w1 hw1 => (keys_calls b18 w1).mono ?_)
      rintro e w2 ⟨B, rfl, hB1, hB2, hb⟩
      refine ⟨_, _, rfl, hw1.more (φ := cel [.map (some b18)] 44) hb hB1 hB2 rfl, ?_⟩
      clear hB1 hB2 hb hw1
      refine xo_call (fs := []) (cs := []) rfl rfl rfl sorted_enters rfl (fun w1 hw1 => (sorted_calls 58 [.pointer (some ⟨B, 0, none⟩)] keysIter_enters (fun k => k = B ∨ k = b18) (subM xs m) (subM xs m).length w1 (iter_keys (subM xs m) b18 B w1 (hw1.obj (wr := true) (cs := [.map (some b18)]) (by repeat (first | exact List.Mem.head _ | apply List.Mem.tail | apply List.mem_append_right))) (hw1.imap (wr := true) (by repeat (first | exact List.Mem.head _ | apply List.Mem.tail | apply List.mem_append_right)))) (fun k hk => hk.elim (fun e => e ▸ hw1.lt (e := (B, true, cel [.map (some b18)] 44)) (by repeat (first | exact List.Mem.head _ | apply List.Mem.tail | apply List.mem_append_right))) (fun e => e ▸ hw1.lt (e := (b18, true, hmap (setV (subM xs m)))) (by repeat (first | exact List.Mem.head _ | apply List.Mem.tail | apply List.mem_append_right)))) (by omega) (by omega)).mono ?_)
      rintro e w2 ⟨r11, rfl, hrw, hb⟩
      rw [hsort] at hrw ⊢
      have h11 := hrw.1
      refine ⟨_, _, rfl, hw1.row hb hrw, ?_⟩
      clear hrw hb hw1
      refine xo_asg rfl rfl rfl ?_
      with_reducible refine xo_nil ?_
      with_reducible repeat (first | refine xq_then ?_ | refine xq_blockN ?_ | refine xq_scopeN ?_)
      with_reducible refine xc_seq ?_
      refine xc_cut (γ := Unit) (fun _ => True) (fun _ => [(0, .slice A xs.length c), (1, .func (.func g) #[] cs.toArray), (5, valR rr best.length), (6, .bool f), (14, .int .i64 ((2 ^ xs.length : Nat) : Int)), (15, .int .i64 (m : Int)), (8, .map (some b18)), (11, valR r11 (subM xs m).length), (57, .bool (f && !aheadF (subM xs m) best))])
        (fun _ => hpR 3 1 r11 (subM xs m).length ((subM xs m).map (.int .i64)) ++ ((b18, true, hmap (setV (subM xs m))) :: (hpR 3 1 rr best.length (best.map (.int .i64)) ++ []))) ?_ (fun _ _ => ?_)
      · cases hf : f <;> cases h43 : decide ((best.length : Int) < ((subM xs m).length : Int)) <;> cases h49 : decide (((subM xs m).length : Int) = (best.length : Int))
        all_goals
          try have h49' : (subM xs m).length = best.length := (by have := of_decide_eq_true h49; omega)
          with_reducible repeat refine xc_seq ?_
          with_reducible refine xc_region ?_
          refine xo_mv rfl rfl rfl ?_
          refine xo_mv rfl rfl rfl ?_
          first
            | refine xo_not rfl rfl ?_
            | (refine xo_mv rfl rfl rfl ?_)
          first
            | refine xo_not rfl rfl ?_
            | (refine xo_lenR T_ rfl rfl (fun h => by rw [h11 h]; rfl) rfl rfl ?_)
          first
            | refine xo_not rfl rfl ?_
            | (refine xo_mv rfl rfl rfl ?_)
          first
            | refine xo_not rfl rfl ?_
            | (refine xo_lenR T_ rfl rfl (fun h => by rw [hrr h]; rfl) rfl rfl ?_)
          first
            | refine xo_not rfl rfl ?_
            | (refine xo_gtr rfl rfl rfl rfl ?_)
          first | refine xo_as (i := 43) rfl (congrArg Value.bool h43) ?_ | skip
          first
            | refine xo_not rfl rfl ?_
            | (refine xo_mv rfl rfl rfl ?_)
          first
            | refine xo_not rfl rfl ?_
            | (refine xo_mv rfl rfl rfl ?_)
          first
            | refine xo_not rfl rfl ?_
            | (refine xo_lenR T_ rfl rfl (fun h => by rw [h11 h]; rfl) rfl rfl ?_)
          first
            | refine xo_not rfl rfl ?_
            | (refine xo_mv rfl rfl rfl ?_)
          first
            | refine xo_not rfl rfl ?_
            | (refine xo_lenR T_ rfl rfl (fun h => by rw [hrr h]; rfl) rfl rfl ?_)
          first
            | refine xo_not rfl rfl ?_
            | (refine xo_eql rfl rfl rfl rfl ?_)
          first | refine xo_as (i := 49) rfl (congrArg Value.bool h49) ?_ | skip
          first
            | refine xo_not rfl rfl ?_
            | (refine xo_mv rfl rfl rfl ?_)
          first
            | refine xo_not rfl rfl ?_
            | (refine xo_mv rfl rfl rfl ?_)
          first
            | refine xo_not rfl rfl ?_
            | (refine xo_mv rfl rfl rfl ?_)
          first
            | refine xo_not rfl rfl ?_
            | (refine xo_callB (fs := []) (cs := []) rfl rfl rfl compare_enters rfl (fun w1 hw1 => cmpRows hw1 (by omega) h49' (hw1.rowAt h11 (fun p hp => by subst hp; exact (by repeat (first | exact List.Mem.head _ | exact List.mem_append_left _ (List.Mem.head _) | apply List.mem_append_right | apply List.Mem.tail)))) (hw1.rowAt hrr (fun p hp => by subst hp; exact (by repeat (first | exact List.Mem.head _ | exact List.mem_append_left _ (List.Mem.head _) | apply List.mem_append_right | apply List.Mem.tail))))) ?_)
          first
            | refine xo_not rfl rfl ?_
            | (refine xo_geq rfl rfl rfl rfl ?_)
          first
            | refine xo_not rfl rfl ?_
            | (first | refine xo_pickT rfl rfl rfl rfl ?_ | refine xo_pickF rfl rfl rfl rfl ?_)
          first
            | refine xo_not rfl rfl ?_
            | (first | refine xo_pickT rfl rfl rfl rfl ?_ | refine xo_pickF rfl rfl rfl rfl ?_)
          first | refine xo_pickT rfl rfl rfl rfl ?_ | refine xo_pickF rfl rfl rfl rfl ?_
          with_reducible refine xo_nil ?_
          with_reducible repeat (first | refine xq_then ?_ | refine xq_blockN ?_ | refine xq_scopeN ?_)
          exact xq_meet _ _ _ () trivial ⟨rfl, rfl, rfl, rfl, rfl, rfl, rfl, rfl, by rw [few_skip, h43, h49]; rfl, trivial⟩ (List.Sublist.append (List.Sublist.refl _) (List.sublist_cons_self _ _))
      with_reducible repeat refine xc_seq ?_
      refine xc_cond rfl (fun hsk => ?_) (fun hsk => ?_)
      · rw [if_pos hsk] at hstep
        with_reducible refine xc_exit ?_
        with_reducible repeat (first | refine xq_blockX ?_ | refine xq_thenE ?_ | refine xq_blockE rfl ?_ | refine xq_scopeE ?_)
        with_reducible repeat (first | refine xq_then ?_ | refine xq_blockN ?_ | refine xq_scopeN ?_)
        with_reducible repeat refine xc_seq ?_
        with_reducible refine xc_region ?_
        refine xo_add rfl rfl rfl (by omega) rfl ?_
        refine xo_mv rfl rfl rfl ?_
        with_reducible refine xo_nil ?_
        with_reducible repeat (first | refine xq_then ?_ | refine xq_blockN ?_ | refine xq_scopeN ?_)
        refine xq_again _ _ _ _ _ (m + 1, rr) ⟨hlt, by rw [hstep]; exact hrr⟩ (by first | omega | (simp only; omega)) ⟨rfl, rfl, by rw [hstep]; rfl, by rw [hstep]; rfl, rfl, rfl, trivial⟩ ?_
        simp only [hstep]
        exact (List.sublist_cons_self _ _).trans (List.sublist_append_right _ _)
      rw [if_neg (by rw [hsk]; simp)] at hstep
      with_reducible refine xc_skip ?_
      with_reducible repeat (first | refine xq_then ?_ | refine xq_blockN ?_ | refine xq_scopeN ?_)
      with_reducible repeat refine xc_seq ?_
      with_reducible refine xc_region ?_
      refine xo_mv rfl rfl rfl ?_
      refine xo_mv rfl rfl rfl ?_
      refine xo_callB (fs := []) rfl rfl rfl eg rfl (fun w1 hw1 => hp (subM xs m) b18 w1 hw1.kx.below (hw1.own (φ := hmap (setV (subM xs m))) (by repeat (first | exact List.Mem.head _ | exact List.mem_append_left _ (List.Mem.head _) | apply List.mem_append_right | apply List.Mem.tail))) (hw1.imap (wr := true) (by repeat (first | exact List.Mem.head _ | exact List.mem_append_left _ (List.Mem.head _) | apply List.mem_append_right | apply List.Mem.tail))) hnd) ?_
      with_reducible refine xo_nil ?_
      with_reducible repeat (first | refine xq_then ?_ | refine xq_blockN ?_ | refine xq_scopeN ?_)
      with_reducible repeat refine xc_seq ?_
      refine xc_cond rfl (fun hpb => ?_) (fun hpb => ?_)
      · rw [if_pos hpb] at hstep
        with_reducible repeat refine xc_seq ?_
        with_reducible refine xc_region ?_
        refine xo_mv rfl rfl rfl ?_
        refine xo_asg rfl rfl rfl ?_
        refine xo_asg rfl rfl rfl ?_
        with_reducible refine xo_nil ?_
        with_reducible repeat (first | refine xq_then ?_ | refine xq_blockN ?_ | refine xq_scopeN ?_)
        with_reducible repeat refine xc_seq ?_
        with_reducible refine xc_region ?_
        refine xo_add rfl rfl rfl (by omega) rfl ?_
        refine xo_mv rfl rfl rfl ?_
        with_reducible refine xo_nil ?_
        with_reducible repeat (first | refine xq_then ?_ | refine xq_blockN ?_ | refine xq_scopeN ?_)
        refine xq_again _ _ _ _ _ (m + 1, r11) ⟨hlt, by rw [hstep]; exact h11⟩ (by first | omega | (simp only; omega)) ⟨rfl, rfl, by rw [hstep]; rfl, by rw [hstep]; rfl, rfl, rfl, trivial⟩ ?_
        simp only [hstep]
        exact List.Sublist.append (List.Sublist.refl _) (List.nil_sublist _)
      · rw [if_neg (by rw [hpb]; simp)] at hstep
        with_reducible refine xc_skip ?_
        with_reducible repeat (first | refine xq_then ?_ | refine xq_blockN ?_ | refine xq_scopeN ?_)
        with_reducible repeat refine xc_seq ?_
        with_reducible refine xc_region ?_
        refine xo_add rfl rfl rfl (by omega) rfl ?_
        refine xo_mv rfl rfl rfl ?_
        with_reducible refine xo_nil ?_
        with_reducible repeat (first | refine xq_then ?_ | refine xq_blockN ?_ | refine xq_scopeN ?_)
        refine xq_again _ _ _ _ _ (m + 1, rr) ⟨hlt, by rw [hstep]; exact hrr⟩ (by first | omega | (simp only; omega)) ⟨rfl, rfl, by rw [hstep]; rfl, by rw [hstep]; rfl, rfl, rfl, trivial⟩ ?_
        simp only [hstep]
        exact (List.sublist_cons_self _ _).trans (List.sublist_append_right _ _)
  · have hge : ¬ m < 2 ^ xs.length := by have := of_decide_eq_false h; omega
    have hmm : m = 2 ^ xs.length := by omega
    subst hmm
    with_reducible refine xc_exit ?_
    with_reducible repeat (first | refine xq_blockX ?_ | refine xq_thenE ?_ | refine xq_blockE rfl ?_ | refine xq_scopeE ?_)
    with_reducible repeat (first | refine xq_then ?_ | refine xq_blockN ?_ | refine xq_scopeN ?_)
    with_reducible repeat refine xc_seq ?_
    with_reducible refine xc_region ?_
    refine xo_mv rfl rfl rfl ?_
    refine xo_asg rfl rfl rfl ?_
    with_reducible refine xo_nil ?_
    with_reducible repeat (first | refine xq_then ?_ | refine xq_blockN ?_ | refine xq_scopeN ?_)
    with_reducible repeat refine xc_seq ?_
    with_reducible refine xc_ret ?_
    with_reducible repeat (first | refine xq_thenR ?_ | refine xq_blockR ?_ | refine xq_scopeR ?_)
    exact xq_ret1 rfl rfl fun w' hw => ⟨rr, rfl, RowAt.of hw hrr, hw.kx.below⟩
end Go.Proofs.Ytcmepdamemnbkaa
namespace Go.Proofs.Ytcmepdamemnbkaa
open Go.RowKit Go.Proofs.YtcmepdamemnbkaaW.PrintWords
set_option linter.unusedVariables false
set_option linter.unusedSimpArgs false
theorem holdsL_congr {G G' : List Int} : ∀ (r : List RecT) (bs : List Int), (∀ x ∈ r, (x.f0 ∈ G ↔ x.f0 ∈ G')) → holdsL G bs r = holdsL G' bs r
  | [], _, _ => rfl
  | x :: r, bs, h => by
    have h1 : decide (x.f0 ∈ G) = decide (x.f0 ∈ G') := decide_eq_decide.2 (h x (List.mem_cons_self ..))
    have ih := fun bs => holdsL_congr r bs fun y hy => h y (List.mem_cons_of_mem _ hy)
    unfold holdsL
    rw [h1, ih, ih]
theorem holdsF_congr {r : List RecT} {G G' : List Int} (h : ∀ n ∈ idsL r, (n ∈ G ↔ n ∈ G')) : holdsF r G = holdsF r G' :=
  holdsL_congr r [] fun x hx => h x.f0 (List.mem_map.2 ⟨x, hx, rfl⟩)
end Go.Proofs.Ytcmepdamemnbkaa
namespace Go.Proofs.Ytcmepdamemnbkaa
open Go.RowKit Go.MapKept
set_option linter.unusedVariables false
set_option linter.unusedSimpArgs false
section
variable {P : Program} {ro : Option Nat} {n N : Nat} {ds : List Deferred} {w0 : World} {X : Nat → Prop} {Q : Exit → Act → World → Prop} {σ : Slots} {η : Hp} {ops rest : List Oper} {d : Option Tmp} {ty : TypeId} {pos : String} {aft : Array Edge} {g : Option (Nat × Bool)}
theorem xo_lenM (T : Tys P) {m : Operand} {t tk te : TypeId} {b : Nat} {wr : Bool} {s : List Int} (hg : gS ops σ g = some true) (ht : look t T.mp = some (tk, te)) (hm : ev σ m = some (.map (some b))) (hb : (b, wr, hmap (setV s)) ∈ η) (hN : dstOK N d = true)
    (h : XO P ro n N ds w0 X Q ops (putS d (.int .i64 (s.length : Int)) σ) η rest) : XO P ro n N ds w0 X Q ops σ η (⟨d, .call { callee := .builtin .len, args := #[m], argTypes := #[t] }, ty, pos, aft, g⟩ :: rest) := by
  refine xo_bi (xs := [m]) (vs := [.map (some b)]) _ hg (by simp [evs, hm]) hN (fun w hw cs => ?_) h
  obtain ⟨o, h1, es, c, rfl, hE⟩ := hw.bl _ hb
  have hsz : es.size = s.length := by
    have := congrArg List.length hE.is
    simpa [setV] using this
  have hu := T.hmp _ (look_mem ht)
  simp only at hu h1
  simp [builtin, Builtin.len_, run_underlying hu, MapKept.run_getObj_map h1, Result.andThen, goInt, hsz]
end
end Go.Proofs.Ytcmepdamemnbkaa
namespace Go.Proofs.Ytcmepdamemnbkaa
open Go.RowKit Go.Proofs.YtcmepdamemnbkaaW.PrintWords
set_option linter.unusedVariables false
set_option linter.unusedSimpArgs false
def restP (r : List RecT) (id : Int) (S : List Int) : Bool := decide (id ∈ S) && decide ((holdsF r (compl r S)).length = S.length)
theorem compl_iff {r : List RecT} {S : List Int} {n : Int} (hn : n ∈ idsL r) : n ∈ compl r S ↔ n ∉ S := by
  obtain ⟨i, hi, rfl⟩ := idsL_mem.1 hn
  exact compl_mem hi
theorem insN_nodup {x : Int} {s : List Int} (h : s.Nodup) : (insN x s).Nodup := by
  unfold insN
  split
  · exact h
  · rename_i hx
    refine List.nodup_append.2 ⟨h, by simp, fun a ha b hb e => ?_⟩
    simp at hb
    subst hb
    exact hx (e ▸ ha)
theorem mem_delN {x y : Int} {s : List Int} (h : s.Nodup) : y ∈ delN x s ↔ y ≠ x ∧ y ∈ s := h.mem_erase_iff
theorem idsL_take_succ {r : List RecT} {k : Nat} (hk : k < r.length) {n : Int} : n ∈ idsL (r.take (k + 1)) ↔ n = (r.getD k zRec).f0 ∨ n ∈ idsL (r.take k) := by
  have h1 : r.getD k zRec = r[k] := by simp [List.getD_eq_getElem?_getD, List.getElem?_eq_getElem hk]
  rw [h1, idsL, List.take_succ_eq_append_getElem hk, List.map_append, List.mem_append]
  simp only [List.map_cons, List.map_nil, List.mem_singleton]
  exact Or.comm
set_option maxHeartbeats 4000000 in
theorem rests1_calls (A : Option Addr) (c : Nat) (r : List RecT) (id : Int) (M0 b1 b2 b3 M : Nat) (S : List Int) (W : World) (hr : Kd.C recK W A r.length r) (hlen : r.length ≤ 1000000) (h1 : W.cell? ⟨b1, 0, none⟩ = some (.slice A r.length c)) (h2 : W.cell? ⟨b2, 0, none⟩ = some (.int .i64 id))
    (h3 : W.heap[b3]? = some (.cells #[.slice A r.length c, .map (some M0)] 46 (0, 0))) (hM : IMap W M (setV S)) (hS : S.Nodup) :
    Calls Try.prog 36 #[.map (some M), .pointer (some ⟨b1, 0, none⟩), .pointer (some ⟨b2, 0, none⟩), .pointer (some ⟨b3, 0, none⟩)] W fun e w' => e = .returned (.bool (restP r id S)) ∧ Below W.heap.size W w' := by
  have r1 := ro1 h1
  have r2 := ro1 h2
  have r3 : RO W XNone ⟨b3, 0, none⟩ [.slice A r.length c, .map (some M0)] := fun j v hj => ⟨by
    have := cell_of_row W b3 j _ 46 (0, 0) h3
    rw [Addr.add_lit, Nat.zero_add, this]
    simpa using hj, fun q => q⟩
  have hn := hr.2.1
  refine x_callsH (X := XNone) Try.func36 rfl rfl rfl (WOK.startM XNone hM) ?_
  with_reducible repeat refine xc_seq ?_
  with_reducible refine xc_region ?_
  refine xo_asg rfl rfl rfl ?_
  with_reducible refine xo_nil ?_
  with_reducible repeat (first | refine xq_then ?_ | refine xq_blockN ?_ | refine xq_scopeN ?_)
  with_reducible repeat refine xc_seq ?_
  with_reducible refine xc_region ?_
  refine xo_mkm rfl rfl (fun b10 => ?_)
  refine xo_asg rfl rfl rfl ?_
  with_reducible refine xo_nil ?_
  with_reducible repeat (first | refine xq_then ?_ | refine xq_blockN ?_ | refine xq_scopeN ?_)
  with_reducible repeat refine xc_seq ?_
  with_reducible refine xc_region ?_
  refine xo_loadR0 T_ rfl rfl rfl (by first | assumption | exact RO.fld (by assumption) rfl) rfl ?_
  refine xo_len T_ rfl rfl rfl rfl ?_
  refine xo_mv rfl rfl rfl ?_
  with_reducible refine xo_nil ?_
  with_reducible repeat (first | refine xq_then ?_ | refine xq_blockN ?_ | refine xq_scopeN ?_)
  with_reducible repeat refine xc_seq ?_
  with_reducible refine xc_block ?_
  refine xc_loop (γ := Nat × List Int) (fun q => q.1 ≤ r.length ∧ q.2.Nodup ∧ ∀ n, n ∈ q.2 ↔ n ∈ idsL (r.take q.1)) (fun q => [(0, .map (some M)), (1, .pointer (some ⟨b1, 0, none⟩)), (2, .pointer (some ⟨b2, 0, none⟩)), (3, .pointer (some ⟨b3, 0, none⟩)), (6, .map (some b10)), (11, .slice A r.length c), (12, .int .i64 (r.length : Int)), (13, .int .i64 (q.1 : Int))])
    (fun q => [(b10, true, hmap (setV q.2)), (M, false, hmap (setV S))]) (fun q => r.length - q.1) (0, []) ⟨Nat.zero_le _, List.nodup_nil, fun n => by simp [idsL]⟩ ⟨rfl, rfl, rfl, rfl, rfl, rfl, rfl, rfl, trivial⟩ (by repeat (first | exact List.Sublist.refl _ | apply List.Sublist.cons_cons | apply List.Sublist.cons | exact List.nil_sublist _)) ?_
  rintro ⟨k, acc⟩ ⟨hk1, hnd, hacc⟩
  simp only at hk1 hnd hacc ⊢
  with_reducible repeat refine xc_seq ?_
  with_reducible refine xc_region ?_
  refine xo_lss rfl rfl rfl rfl ?_
  with_reducible refine xo_nil ?_
  with_reducible repeat (first | refine xq_then ?_ | refine xq_blockN ?_ | refine xq_scopeN ?_)
  with_reducible repeat refine xc_seq ?_
  refine xc_cond rfl (fun h => ?_) (fun h => ?_)
  · have hlt : k < r.length := by have := of_decide_eq_true h; omega
    obtain ⟨ad, A2, c2, rfl, r4, hc2, hw2⟩ := rec_at hr k hlt
    have hts := fun n => idsL_take_succ hlt (n := n)
    generalize r.getD k zRec = x at *
    with_reducible refine xc_skip ?_
    with_reducible repeat (first | refine xq_then ?_ | refine xq_blockN ?_ | refine xq_scopeN ?_)
    with_reducible repeat refine xc_seq ?_
    with_reducible refine xc_block ?_
    with_reducible repeat refine xc_seq ?_
    with_reducible refine xc_region ?_
    refine xo_ia T_ rfl rfl rfl rfl rfl ⟨by omega, by omega⟩ rfl ?_
    refine xo_loadRN T_ rfl rfl rfl (by assumption) rfl rfl ?_
    refine xo_alloc T_ rfl rfl rfl rfl (fun b8 => ?_)
    refine xo_store T_ rfl rfl rfl rfl (by repeat (first | exact List.Mem.head _ | apply List.Mem.tail | apply List.mem_append_right)) rfl rfl rfl rfl (by repeat (first | exact Upd.head | apply Upd.tail | apply Upd.app)) rfl ?_
    with_reducible refine xo_nil ?_
    with_reducible repeat (first | refine xq_then ?_ | refine xq_blockN ?_ | refine xq_scopeN ?_)
    with_reducible repeat refine xc_seq ?_
    with_reducible refine xc_region ?_
    refine xo_mv rfl rfl rfl ?_
    refine xo_fa T_ rfl rfl rfl rfl rfl ?_
    refine xo_load0 T_ rfl rfl rfl (by repeat (first | exact List.Mem.head _ | apply List.Mem.tail | apply List.mem_append_right)) rfl rfl ?_
    refine xo_sins T_ rfl rfl rfl rfl rfl rfl (by repeat (first | exact List.Mem.head _ | apply List.Mem.tail | apply List.mem_append_right)) (by repeat (first | exact Upd.head | apply Upd.tail | apply Upd.app)) rfl ?_
    with_reducible refine xo_nil ?_
    with_reducible repeat (first | refine xq_then ?_ | refine xq_blockN ?_ | refine xq_scopeN ?_)
    with_reducible repeat refine xc_seq ?_
    with_reducible refine xc_region ?_
    refine xo_add rfl rfl rfl (by omega) rfl ?_
    refine xo_mv rfl rfl rfl ?_
    with_reducible refine xo_nil ?_
    with_reducible repeat (first | refine xq_then ?_ | refine xq_blockN ?_ | refine xq_scopeN ?_)
    exact xq_again _ _ _ _ _ (k + 1, insN x.f0 acc) ⟨hlt, insN_nodup hnd, fun n => by rw [mem_insN, hacc, hts]⟩ (by first | omega | (simp only; omega)) ⟨rfl, rfl, rfl, rfl, rfl, rfl, rfl, rfl, trivial⟩ (by repeat (first | exact List.Sublist.refl _ | apply List.Sublist.cons_cons | apply List.Sublist.cons | exact List.nil_sublist _))
  have hge : ¬ k < r.length := by have := of_decide_eq_false h; omega
  rw [List.take_of_length_le (by omega)] at hacc
  with_reducible refine xc_exit ?_
  with_reducible repeat (first | refine xq_blockX ?_ | refine xq_thenE ?_ | refine xq_blockE rfl ?_ | refine xq_scopeE ?_)
  with_reducible repeat (first | refine xq_then ?_ | refine xq_blockN ?_ | refine xq_scopeN ?_)
  with_reducible repeat refine xc_seq ?_
  with_reducible refine xc_region ?_
  refine xo_mv rfl rfl rfl ?_
  refine xo_rangeM T_ rfl rfl rfl (by repeat (first | exact List.Mem.head _ | apply List.Mem.tail | apply List.mem_append_right)) (fun es c => Rep.tail Rep.head) rfl (fun b22 es cl hE => ?_)
  with_reducible refine xo_nil ?_
  with_reducible repeat (first | refine xq_then ?_ | refine xq_blockN ?_ | refine xq_scopeN ?_)
  with_reducible repeat refine xc_seq ?_
  with_reducible refine xc_block ?_
  refine xc_loop (γ := Array Nat × List Int × List Int) (fun q => Seen es q.1 q.2.1 ∧ q.2.2.Nodup ∧ ∀ n, n ∈ q.2.2 ↔ n ∈ idsL r ∧ n ∉ q.2.1) (fun q => [(0, .map (some M)), (2, .pointer (some ⟨b2, 0, none⟩)), (3, .pointer (some ⟨b3, 0, none⟩)), (6, .map (some b10)), (22, .pointer (some ⟨b22, 0, none⟩))])
    (fun q => [(b22, true, hiter M cl q.1), (b10, true, hmap (setV q.2.2)), (M, false, hmapE es cl)]) (fun q => S.length - q.2.1.length) (#[], [], acc) ⟨⟨List.nodup_nil, fun n => by simp⟩, hnd, fun n => by simp [hacc]⟩ ⟨rfl, rfl, rfl, rfl, rfl, trivial⟩ (by repeat (first | exact List.Sublist.refl _ | apply List.Sublist.cons_cons | apply List.Sublist.cons | exact List.nil_sublist _)) ?_
  rintro ⟨seen, ys, acc2⟩ ⟨hseen, hnd2, hacc2⟩
  simp only at hseen hnd2 hacc2 ⊢
  with_reducible repeat refine xc_seq ?_
  with_reducible refine xc_region ?_
  refine xo_next rfl rfl (by repeat (first | exact List.Mem.head _ | apply List.Mem.tail | apply List.mem_append_right)) (by repeat (first | exact List.Mem.head _ | apply List.Mem.tail | apply List.mem_append_right)) hE (fun seen' => Upd.head) rfl (fun hall => ?_) (fun e he hns => ?_)
  · have hperm := hseen.all hE hall
    have hcong : holdsF r acc2 = holdsF r (compl r S) := holdsF_congr fun n hn => by rw [compl_iff hn, hacc2, hperm.mem_iff]; exact ⟨fun q => q.2, fun q => ⟨hn, q⟩⟩
    refine xo_ext rfl rfl rfl rfl ?_
    with_reducible refine xo_nil ?_
    with_reducible repeat (first | refine xq_then ?_ | refine xq_blockN ?_ | refine xq_scopeN ?_)
    with_reducible repeat refine xc_seq ?_
    refine xc_condF rfl ?_
    with_reducible refine xc_exit ?_
    with_reducible repeat (first | refine xq_blockX ?_ | refine xq_thenE ?_ | refine xq_blockE rfl ?_ | refine xq_scopeE ?_)
    refine xq_rep (b := M) (by repeat (first | exact List.Mem.head _ | apply List.Mem.tail | apply List.mem_append_right)) (fun o h => hmapE_hmap hE h) (Rep.tail (Rep.tail Rep.head)) ?_
    with_reducible repeat (first | refine xq_then ?_ | refine xq_blockN ?_ | refine xq_scopeN ?_)
    cases hid : decide (id ∈ S)
    · with_reducible repeat refine xc_seq ?_
      with_reducible refine xc_region ?_
      refine xo_mv rfl rfl rfl ?_
      refine xo_loadR0 T_ rfl rfl rfl (by first | assumption | exact RO.fld (by assumption) rfl) rfl ?_
      refine xo_sget T_ rfl rfl rfl rfl rfl rfl (by repeat (first | exact List.Mem.head _ | apply List.Mem.tail | apply List.mem_append_right)) rfl ?_
      refine xo_mv rfl rfl rfl ?_
      refine xo_as (i := 32) rfl (congrArg Value.bool hid) ?_
      first
        | refine xo_not rfl rfl ?_
        | (refine xo_loadRN T_ rfl rfl rfl (by assumption) rfl rfl ?_)
      first
        | refine xo_not rfl rfl ?_
        | (refine xo_mv rfl rfl rfl ?_)
      first
        | refine xo_not rfl rfl ?_
        | (fail "NO RULE: Op.call -6")
      first
        | refine xo_not rfl rfl ?_
        | (fail "NO RULE: Op.call -7")
      first
        | refine xo_not rfl rfl ?_
        | (refine xo_len T_ rfl rfl rfl rfl ?_)
      first
        | refine xo_not rfl rfl ?_
        | (refine xo_mv rfl rfl rfl ?_)
      first
        | refine xo_not rfl rfl ?_
        | (refine xo_len T_ rfl rfl rfl rfl ?_)
      first
        | refine xo_not rfl rfl ?_
        | (refine xo_eql rfl rfl rfl rfl ?_)
      first | refine xo_pickT rfl rfl rfl rfl ?_ | refine xo_pickF rfl rfl rfl rfl ?_
      refine xo_asg rfl rfl rfl ?_
      with_reducible refine xo_nil ?_
      with_reducible repeat (first | refine xq_then ?_ | refine xq_blockN ?_ | refine xq_scopeN ?_)
      with_reducible repeat refine xc_seq ?_
      with_reducible refine xc_ret ?_
      with_reducible repeat (first | refine xq_thenR ?_ | refine xq_blockR ?_ | refine xq_scopeR ?_)
      exact xq_ret1 rfl rfl fun w' hw => ⟨by rw [restP, hid]; rfl, hw.kx.below⟩
    · with_reducible repeat refine xc_seq ?_
      with_reducible refine xc_region ?_
      refine xo_mv rfl rfl rfl ?_
      refine xo_loadR0 T_ rfl rfl rfl (by first | assumption | exact RO.fld (by assumption) rfl) rfl ?_
      refine xo_sget T_ rfl rfl rfl rfl rfl rfl (by repeat (first | exact List.Mem.head _ | apply List.Mem.tail | apply List.mem_append_right)) rfl ?_
      refine xo_mv rfl rfl rfl ?_
      refine xo_as (i := 32) rfl (congrArg Value.bool hid) ?_
      first
        | refine xo_not rfl rfl ?_
        | (refine xo_loadRN T_ rfl rfl rfl (by assumption) rfl rfl ?_)
      first
        | refine xo_not rfl rfl ?_
        | (refine xo_mv rfl rfl rfl ?_)
      first
        | refine xo_not rfl rfl ?_
        | (refine xo_holds rfl rfl rfl rfl (fun b4 b5 => ?_))
      first
        | refine xo_not rfl rfl ?_
        | (refine xo_collect (r := r) hr hlen rfl rfl (by repeat (first | exact List.Mem.head _ | apply List.Mem.tail | apply List.mem_append_right)) (by repeat (first | exact List.Mem.head _ | apply List.Mem.tail | apply List.mem_append_right)) (by repeat (first | exact List.Mem.head _ | apply List.Mem.tail | apply List.mem_append_right)) (fun w1 hw1 => ne_of_nd hw1) rfl (fun rr hrr => ?_))
      first
        | refine xo_not rfl rfl ?_
        | (refine xo_lenR T_ rfl rfl (fun h => by rw [hrr h]; rfl) rfl rfl ?_)
      first
        | refine xo_not rfl rfl ?_
        | (refine xo_mv rfl rfl rfl ?_)
      first
        | refine xo_not rfl rfl ?_
        | (refine xo_lenM T_ rfl rfl rfl (by repeat (first | exact List.Mem.head _ | exact List.mem_append_left _ (List.Mem.head _) | apply List.mem_append_right | apply List.Mem.tail)) rfl ?_)
      first
        | refine xo_not rfl rfl ?_
        | (refine xo_eql rfl rfl rfl rfl ?_)
      first | refine xo_pickT rfl rfl rfl rfl ?_ | refine xo_pickF rfl rfl rfl rfl ?_
      refine xo_asg rfl rfl rfl ?_
      with_reducible refine xo_nil ?_
      with_reducible repeat (first | refine xq_then ?_ | refine xq_blockN ?_ | refine xq_scopeN ?_)
      with_reducible repeat refine xc_seq ?_
      with_reducible refine xc_ret ?_
      with_reducible repeat (first | refine xq_thenR ?_ | refine xq_blockR ?_ | refine xq_scopeR ?_)
      have hv : decide (((holdsF r acc2).length : Int) = (S.length : Int)) = restP r id S := by
        rw [restP, hid, hcong, Bool.true_and, decide_eq_decide]
        omega
      exact xq_ret1 rfl rfl fun w' hw => ⟨congrArg (fun b => Ending.returned (.bool b)) hv, hw.kx.below⟩
  · obtain ⟨k, hk, hk1, hk2⟩ := hE.setV he
    have hst := hseen.step hE he hns hk1
    have hlen2 : ys.length < S.length := by
      have := hst.len hE
      simp at this
      omega
    rw [hk1, hk2]
    refine xo_ext rfl rfl rfl rfl ?_
    with_reducible refine xo_nil ?_
    with_reducible repeat (first | refine xq_then ?_ | refine xq_blockN ?_ | refine xq_scopeN ?_)
    with_reducible repeat refine xc_seq ?_
    refine xc_condT rfl ?_
    with_reducible refine xc_skip ?_
    with_reducible repeat (first | refine xq_then ?_ | refine xq_blockN ?_ | refine xq_scopeN ?_)
    with_reducible repeat refine xc_seq ?_
    with_reducible refine xc_block ?_
    with_reducible repeat refine xc_seq ?_
    with_reducible refine xc_region ?_
    refine xo_entry rfl rfl (by repeat (first | exact List.Mem.head _ | apply List.Mem.tail | apply List.mem_append_right)) (by repeat (first | exact List.Mem.head _ | apply List.Mem.tail | apply List.mem_append_right)) hE he rfl ?_
    rw [hk1, hk2]
    refine xo_ext rfl rfl rfl rfl ?_
    refine xo_asg rfl rfl rfl ?_
    with_reducible refine xo_nil ?_
    with_reducible repeat (first | refine xq_then ?_ | refine xq_blockN ?_ | refine xq_scopeN ?_)
    with_reducible repeat refine xc_seq ?_
    with_reducible refine xc_region ?_
    refine xo_mv rfl rfl rfl ?_
    refine xo_mv rfl rfl rfl ?_
    refine xo_sdel T_ rfl rfl rfl rfl rfl (by repeat (first | exact List.Mem.head _ | apply List.Mem.tail | apply List.mem_append_right)) (by repeat (first | exact Upd.head | apply Upd.tail | apply Upd.app)) rfl ?_
    with_reducible refine xo_nil ?_
    with_reducible repeat (first | refine xq_then ?_ | refine xq_blockN ?_ | refine xq_scopeN ?_)
    refine xq_again _ _ _ _ _ (seen.push e.born, ys ++ [k], delN k acc2) ⟨hst, hnd2.erase _, fun n => ?_⟩ (by simp only [List.length_append, List.length_cons, List.length_nil]; omega) ⟨rfl, rfl, rfl, rfl, rfl, trivial⟩ (by repeat (first | exact List.Sublist.refl _ | apply List.Sublist.cons_cons | apply List.Sublist.cons | exact List.nil_sublist _))
    rw [mem_delN hnd2, hacc2, List.mem_append, List.mem_singleton, not_or]
    exact ⟨fun q => ⟨q.2.1, q.2.2, q.1⟩, fun q => ⟨q.2.2, q.1, q.2.1⟩⟩
theorem rests1_enters : ∀ args w, (callFunc 36 args).run Try.prog w = .ok (.enter 36 args) w := enters_of Try.func36 (by kernel_rfl) rfl
end Go.Proofs.Ytcmepdamemnbkaa
namespace Go.Proofs.Ytcmepdamemnbkaa
open Go.RowKit
set_option linter.unusedVariables false
set_option linter.unusedSimpArgs false
def ovr : Nat → List (Nat × Value) → List Value → List Value
  | _, _, [] => []
  | i, ws, c :: cs => (match look i ws with
    | some v => v
    | none => c) :: ovr (i + 1) ws cs
theorem ovr_len (ws : List (Nat × Value)) : ∀ (cs : List Value) (i : Nat), (ovr i ws cs).length = cs.length
  | [], _ => rfl
  | c :: cs, i => by simp [ovr, ovr_len ws cs (i + 1)]
inductive SameLen : List Value → List Oper → Prop
  | nil : SameLen [] []
  | cons {cs : List Value} {o : Oper} {ops : List Oper} (h : SameLen cs ops) {c : Value} : SameLen (c :: cs) (o :: ops)
theorem SameLen.len {cs : List Value} {ops : List Oper} (h : SameLen cs ops) : cs.length = ops.length := by
  induction h with
  | nil => rfl
  | cons _ ih => simp [ih]
/-- what an operation has made: blocks, a row -/
structure GV where
  b : Nat
  c : Nat
  rr : RowR
def gv0 : GV := ⟨0, 0, none⟩
/-- nd: how many of the makers E an operation waits for (itself counted); g: what they have made so far -/
def okN (F : List GV → Prop) (nd E : List Nat) (L : List Nat) (g : List GV) : Prop := g.length ≤ E.length ∧ (∀ j ∈ L, nd.getD j 0 ≤ g.length) ∧ (∀ k, k < g.length → E.getD k 0 ∈ L) ∧ F g
section
variable {P : Program} {ro : Option Nat} {n N : Nat} {ds : List Deferred} {w0 : World} {X : Nat → Prop} {Q : Exit → Act → World → Prop} {σ : Slots} {η : Hp} {ops : List Oper} {vs : List GV → List Value} {H : List GV → Hp} {nd E : List Nat} {F : List GV → Prop}
def EPost (F : List GV → Prop) (N : Nat) (ds : List Deferred) (w0 : World) (X : Nat → Prop) (vs : List GV → List Value) (H : List GV → Hp) (i : Nat) (g : List GV) (d : Option Tmp) (σ : Slots) : Act → World → Prop := fun a w =>
  ∃ x : GV, (∃ v, nth i (vs (g ++ [x])) = some v ∧ SOK N ds (putS d v σ) a) ∧ WOK w0 X (H (g ++ [x])) w ∧ F (g ++ [x])
theorem xo_finE {i : Nat} {g : List GV} {d : Option Tmp} {σ : Slots} {v : Value} (x : GV) (hv : nth i (vs (g ++ [x])) = some v) (hF : F (g ++ [x])) : XO P ro n N ds w0 X (PostK (EPost F N ds w0 X vs H i g d σ)) ops (putS d v σ) (H (g ++ [x])) [] := by
  intro a w ha hw
  exact ⟨x, ⟨v, hv, ha⟩, hw, hF⟩
theorem DrawE.nil {i : Nat} : DrawG P ro n N ds w0 X ops vs H (okN F nd E) σ i [] := trivial
theorem DrawE.pure {i : Nat} {o : Oper} {r : List Oper} (m : Nat) (hm : nd.getD i 0 = m) (hle : ∀ L g, okN F nd E L g → (∀ j ∈ depOf o, j ∈ L) → m ≤ g.length)
    (hx : ∀ g, m ≤ g.length → g.length ≤ E.length → F g → ∀ τ, ∃ v, nth i (vs g) = some v ∧ XO P ro n N ds w0 X (OnePost N ds w0 X (H g) (putS o.dst v (flatS ops (vs g) (depOf o) σ ++ τ))) ops (flatS ops (vs g) (depOf o) σ ++ τ) (H g) [o])
    (t : DrawG P ro n N ds w0 X ops vs H (okN F nd E) σ (i + 1) r) : DrawG P ro n N ds w0 X ops vs H (okN F nd E) σ i (o :: r) := by
  refine ⟨fun L g hg hi hd τ => ?_, t⟩
  have hmg := hle L g hg hd
  have hok : okN F nd E (i :: L) g := ⟨hg.1, fun j hj => by
    rcases List.mem_cons.1 hj with rfl | hj
    · rw [hm]; exact hmg
    · exact hg.2.1 j hj, fun k hk => List.mem_cons_of_mem _ (hg.2.2.1 k hk), hg.2.2.2⟩
  obtain ⟨v, hv, hx⟩ := hx g hmg hg.1 hg.2.2.2 τ
  intro a w ha hw
  have hr := hx a w ha hw
  unfold wpListIn at hr ⊢
  split at hr
  · rename_i hw1
    rw [if_pos hw1]
    exact wpIn_swap (Oper.wpIn_mono (fun a' w' h' => show wpListIn _ _ _ _ _ [] a' w' from ⟨g, hok, fun _ _ => rfl, ⟨v, hv, h'.1⟩, h'.2⟩) hr)
  · rename_i hw1
    rw [if_neg hw1]
    exact ⟨fun _ _ => trivial, ⟨g, hok, fun _ _ => rfl, ⟨v, hv, hr.2.1⟩, hr.2.2⟩⟩
theorem DrawE.eff {i : Nat} {o : Oper} {r : List Oper} (k : Nat) (hE : E.getD k 0 = i) (hk : k < E.length) (hnd : nd.getD i 0 = k + 1) (hst : ∀ j g a, nd.getD j 0 ≤ g.length → nth j (vs (g ++ [a])) = nth j (vs g))
    (hle : ∀ L g, okN F nd E L g → (∀ j ∈ depOf o, j ∈ L) → k ≤ g.length)
    (hx : ∀ g, g.length = k → F g → ∀ τ, XO P ro n N ds w0 X (PostK (EPost F N ds w0 X vs H i g o.dst (flatS ops (vs g) (depOf o) σ ++ τ))) ops (flatS ops (vs g) (depOf o) σ ++ τ) (H g) [o])
    (t : DrawG P ro n N ds w0 X ops vs H (okN F nd E) σ (i + 1) r) : DrawG P ro n N ds w0 X ops vs H (okN F nd E) σ i (o :: r) := by
  refine ⟨fun L g hg hi hd τ => ?_, t⟩
  have hkg := hle L g hg hd
  have hgk : g.length = k := by
    by_cases h : k < g.length
    · exact absurd (hE ▸ hg.2.2.1 k h) hi
    · omega
  have hh := hx g hgk hg.2.2.2 τ
  intro a w ha hw
  have hr := hh a w ha hw
  have key : ∀ a' w', EPost F N ds w0 X vs H i g o.dst (flatS ops (vs g) (depOf o) σ ++ τ) a' w' → GPost N ds w0 X ops vs H (okN F nd E) i L g o.dst (flatS ops (vs g) (depOf o) σ ++ τ) a' w' := by
    rintro a' w' ⟨x, h1, h2, h3⟩
    refine ⟨g ++ [x], ⟨by simp; omega, fun j hj => ?_, fun q hq => ?_, h3⟩, fun j hj => hst j g x (hg.2.1 j hj), h1, h2⟩
    · rcases List.mem_cons.1 hj with rfl | hj
      · rw [hnd, List.length_append, List.length_singleton]; omega
      · have := hg.2.1 j hj; rw [List.length_append, List.length_singleton]; omega
    · by_cases e : q = k
      · subst e; rw [hE]; exact List.mem_cons_self ..
      · exact List.mem_cons_of_mem _ (hg.2.2.1 q (by simp at hq; omega))
  unfold wpListIn at hr ⊢
  split at hr
  · rename_i hw1
    rw [if_pos hw1]
    exact wpIn_swapK (Oper.wpIn_mono (fun a' w' h' => show wpListIn _ _ _ _ _ [] a' w' from key a' w' h') hr)
  · rename_i hw1
    rw [if_neg hw1]
    exact ⟨fun _ _ => trivial, key _ _ hr.2⟩
theorem xc_drawE {id : Nat} (ws : List GV → List (Nat × Value)) (Hf : Hp → List GV → Hp) (F : List GV → Prop) (nd E : List Nat) (hF0 : F []) {cs : List Value} (hlv : SameLen cs ops) (hH0 : Hf η [] = η) (hmix : P.follows .mixedOrders = true) (hbind : ops.all (fun o => o.after.toList.all (Region.binds .any)) = true) (hdeps : depsB 0 ops = true) (hdist : distB (dstsOf_ ops) = true) (hfresh : freshB σ (dstsOf_ ops) = true)
    (hE : E.all (fun e => Nat.blt e ops.length && decide (nd.getD e 0 = E.idxOf e + 1)) = true) (hEn : E.Nodup)
    (hop : DrawG P ro n N ds w0 X ops (fun g => ovr 0 (ws g) cs) (Hf η) (okN F nd E) σ 0 ops) (hQ : ∀ g, g.length = E.length → F g → XQ N ds w0 X Q .normal (flatS ops (ovr 0 (ws g) cs) (List.range ops.length) σ) (Hf η g)) : XC P ro n N ds w0 X Q σ η (.region id ops.toArray true) := by
  refine xc_drawG (fun g => ovr 0 (ws g) cs) (Hf η) (okN F nd E) [] ⟨Nat.zero_le _, by simp, by simp, hF0⟩ hH0 (fun g => (ovr_len ..).trans hlv.len) hmix hbind hdeps hdist hfresh hop fun L g hg hall => hQ g ?_ hg.2.2.2
  refine Nat.le_antisymm hg.1 ?_
  by_cases he : E.length = 0
  · omega
  · have hlt : E.length - 1 < E.length := by omega
    have h1 := List.all_eq_true.1 hE _ (List.getElem_mem hlt)
    rw [Bool.and_eq_true, decide_eq_true_eq, Nat.blt_eq] at h1
    have h2 := hg.2.1 _ (hall _ h1.1)
    rw [h1.2] at h2
    have h3 : E.idxOf E[E.length - 1] = E.length - 1 := hEn.idxOf_getElem _ hlt
    omega
end
end Go.Proofs.Ytcmepdamemnbkaa
namespace Go.Proofs.Ytcmepdamemnbkaa
open Go.RowKit Go.Proofs.YtcmepdamemnbkaaW.PrintWords
set_option linter.unusedVariables false
set_option linter.unusedSimpArgs false
def causeP (r : List RecT) (G : List Int) (id : Int) (S : List Int) : Bool := decide (id ∈ holdsF r (diffF G S))
theorem containsR {w0 w : World} {X : Nat → Prop} {η : Hp} (hw : WOK w0 X η w) {rr : RowR} {xs : List Int} (x : Int) (hl : xs.length ≤ 1000000) (h1 : RowAt 3 0 w rr xs) :
    Calls Try.prog 29 ([] ++ [valR rr xs.length, .int .i64 x] ++ []).toArray w fun e w' => e = .returned (.bool (decide (x ∈ xs))) ∧ Below w.heap.size w w' := by
  obtain ⟨A, c, e1, _, hA⟩ := h1.C (by omega)
  rw [e1]
  exact contains_calls A c xs x w hA
set_option maxHeartbeats 4000000 in
theorem causes1_calls (A : Option Addr) (c : Nat) (r : List RecT) (G : List Int) (id : Int) (M0 b1 b2 M : Nat) (S : List Int) (W : World) (hr : Kd.C recK W A r.length r) (hlen : r.length ≤ 1000000) (h2 : W.cell? ⟨b2, 0, none⟩ = some (.int .i64 id))
    (h1 : W.heap[b1]? = some (.cells #[.slice A r.length c, .map (some M0)] 46 (0, 0))) (hG : IMap W M0 (setV G)) (hGn : G.Nodup) (hM : IMap W M (setV S)) (hS : S.Nodup) :
    Calls Try.prog 41 #[.map (some M), .pointer (some ⟨b1, 0, none⟩), .pointer (some ⟨b2, 0, none⟩)] W fun e w' => e = .returned (.bool (causeP r G id S)) ∧ Below W.heap.size W w' := by
  have r2 := ro1 h2
  have r1 : RO W XNone ⟨b1, 0, none⟩ [.slice A r.length c, .map (some M0)] := fun j v hj => ⟨by
    have := cell_of_row W b1 j _ 46 (0, 0) h1
    rw [Addr.add_lit, Nat.zero_add, this]
    simpa using hj, fun q => q⟩
  have r1b : RO W XNone ⟨b1, 1, none⟩ [.map (some M0)] := ro1 (by rw [cell_of_row W b1 1 _ 46 (0, 0) h1]; rfl)
  have hn := hr.2.1
  obtain ⟨es0, cl0, hg1, hg2⟩ := hG
  refine x_callsH (X := XNone) Try.func41 rfl rfl rfl (WOK.startM XNone hM) ?_
  with_reducible repeat refine xc_seq ?_
  with_reducible refine xc_region ?_
  refine xo_asg rfl rfl rfl ?_
  with_reducible refine xo_nil ?_
  with_reducible repeat (first | refine xq_then ?_ | refine xq_blockN ?_ | refine xq_scopeN ?_)
  with_reducible repeat refine xc_seq ?_
  with_reducible refine xc_region ?_
  refine xo_faR T_ rfl rfl rfl rfl rfl ?_
  refine xo_loadR0 T_ rfl rfl rfl r1b rfl ?_
  refine xo_call (fs := []) (cs := []) rfl rfl rfl clone_enters rfl (fun w1 hw1 => (clone_calls M0 es0 cl0 w1 ((hw1.kx.below.block M0 (Array.getElem?_eq_some_iff.1 hg1).1).trans hg1)).mono ?_)
  rintro e w2 ⟨rfl, rfl⟩
  refine ⟨_, _, rfl, hw1.alloc _ (hmap (setV G)) ⟨es0, cl0, rfl, hg2⟩, ?_⟩
  generalize w1.heap.size = b9
  clear hw1
  refine xo_asg rfl rfl rfl ?_
  with_reducible refine xo_nil ?_
  with_reducible repeat (first | refine xq_then ?_ | refine xq_blockN ?_ | refine xq_scopeN ?_)
  with_reducible repeat refine xc_seq ?_
  with_reducible refine xc_region ?_
  refine xo_mv rfl rfl rfl ?_
  refine xo_rangeM T_ rfl rfl rfl (by repeat (first | exact List.Mem.head _ | apply List.Mem.tail | apply List.mem_append_right)) (fun es c => Rep.tail Rep.head) rfl (fun b22 es cl hE => ?_)
  with_reducible refine xo_nil ?_
  with_reducible repeat (first | refine xq_then ?_ | refine xq_blockN ?_ | refine xq_scopeN ?_)
  with_reducible repeat refine xc_seq ?_
  with_reducible refine xc_block ?_
  refine xc_loop (γ := Array Nat × List Int × List Int) (fun q => Seen es q.1 q.2.1 ∧ q.2.2.Nodup ∧ ∀ n, n ∈ q.2.2 ↔ n ∈ G ∧ n ∉ q.2.1) (fun q => [(1, .pointer (some ⟨b1, 0, none⟩)), (2, .pointer (some ⟨b2, 0, none⟩)), (5, .map (some b9)), (11, .pointer (some ⟨b22, 0, none⟩))])
    (fun q => [(b22, true, hiter M cl q.1), (b9, true, hmap (setV q.2.2)), (M, false, hmapE es cl)]) (fun q => S.length - q.2.1.length) (#[], [], G) ⟨⟨List.nodup_nil, fun n => by simp⟩, hGn, fun n => by simp⟩ ⟨rfl, rfl, rfl, rfl, trivial⟩ (by repeat (first | exact List.Sublist.refl _ | apply List.Sublist.cons_cons | apply List.Sublist.cons | exact List.nil_sublist _)) ?_
  rintro ⟨seen, ys, acc2⟩ ⟨hseen, hnd2, hacc2⟩
  simp only at hseen hnd2 hacc2 ⊢
  with_reducible repeat refine xc_seq ?_
  with_reducible refine xc_region ?_
  refine xo_next rfl rfl (by repeat (first | exact List.Mem.head _ | apply List.Mem.tail | apply List.mem_append_right)) (by repeat (first | exact List.Mem.head _ | apply List.Mem.tail | apply List.mem_append_right)) hE (fun seen' => Upd.head) rfl (fun hall => ?_) (fun e he hns => ?_)
  · have hperm := hseen.all hE hall
    have hcong : holdsF r acc2 = holdsF r (diffF G S) := holdsF_congr fun n hn => by rw [hacc2, hperm.mem_iff, diffF, List.mem_filter]; simp
    have hl2 := holdsF_len r acc2
    refine xo_ext rfl rfl rfl rfl ?_
    with_reducible refine xo_nil ?_
    with_reducible repeat (first | refine xq_then ?_ | refine xq_blockN ?_ | refine xq_scopeN ?_)
    with_reducible repeat refine xc_seq ?_
    refine xc_condF rfl ?_
    with_reducible refine xc_exit ?_
    with_reducible repeat (first | refine xq_blockX ?_ | refine xq_thenE ?_ | refine xq_blockE rfl ?_ | refine xq_scopeE ?_)
    refine xq_rep (b := M) (by repeat (first | exact List.Mem.head _ | apply List.Mem.tail | apply List.mem_append_right)) (fun o h => hmapE_hmap hE h) (Rep.tail (Rep.tail Rep.head)) ?_
    with_reducible repeat (first | refine xq_then ?_ | refine xq_blockN ?_ | refine xq_scopeN ?_)
    with_reducible repeat refine xc_seq ?_
    apply xc_drawE (fun g => [(2, .func (.func 47) #[] #[.pointer (some ⟨(g.getD 0 gv0).b, 0, none⟩), .pointer (some ⟨(g.getD 0 gv0).c, 0, none⟩)]), (3, valR (g.getD 1 gv0).rr (holdsF r acc2).length)]) (fun (η0 : Hp) g => match g with | [] => (η0) | a0 :: [] => ((a0.c, true, cel [.map (some b9)] 44) :: (a0.b, true, cel [.slice A r.length c, .map (some M0)] 46) :: η0) | a0 :: a1 :: _ => (hpR 3 1 a1.rr (holdsF r acc2).length ((holdsF r acc2).map (.int .i64)) ++ ((a0.c, true, cel [.map (some b9)] 44) :: (a0.b, true, cel [.slice A r.length c, .map (some M0)] 46) :: η0))) (fun g => match g with | _ :: a1 :: _ => (a1.rr = none → holdsF r acc2 = []) | _ => True) [0, 0, 1, 2, 0, 2, 2] [2, 3] (by trivial)
    apply SameLen.cons
    apply SameLen.cons
    apply SameLen.cons (c := undef)
    apply SameLen.cons (c := undef)
    apply SameLen.cons
    apply SameLen.cons
    apply SameLen.cons
    exact SameLen.nil
    rotate_left 5
    case hH0 => rfl
    case hmix => exact T_.mixed
    case hbind => rfl
    case hdeps => rfl
    case hdist => rfl
    case hfresh => rfl
    case hE => rfl
    case hEn => decide
    · refine DrawE.pure 0 rfl (fun L g hg hd => Nat.zero_le _) (fun g hlo hhi hF τ => ?_) ?_
      · rcases g with _ | ⟨a0, _ | ⟨a1, _ | ⟨a2, g⟩⟩⟩
        all_goals first
          | (exfalso; simp only [List.length_cons, List.length_nil] at hlo hhi; omega)
          | (refine ⟨_, rfl, ?_⟩
             refine xo_loadRN T_ rfl rfl rfl (by assumption) rfl rfl ?_
             exact xo_fin rfl)
      refine DrawE.pure 0 rfl (fun L g hg hd => Nat.zero_le _) (fun g hlo hhi hF τ => ?_) ?_
      · rcases g with _ | ⟨a0, _ | ⟨a1, _ | ⟨a2, g⟩⟩⟩
        all_goals first
          | (exfalso; simp only [List.length_cons, List.length_nil] at hlo hhi; omega)
          | (refine ⟨_, rfl, ?_⟩
             refine xo_mv rfl rfl rfl ?_
             exact xo_fin rfl)
      refine DrawE.eff 0 rfl (by decide) rfl (fun j g a hj => ?_) (fun L g hg hd => Nat.zero_le _) (fun g hgl hF τ => ?_) ?_
      · rcases j with _ | _ | _ | _ | _ | _ | _ | j
        all_goals first | rfl | (rcases g with _ | ⟨a0, _ | ⟨a1, _ | ⟨a2, g⟩⟩⟩ <;> first | rfl | exact absurd hj (by decide) | exact absurd hj (by simp [List.getD]))
      · obtain rfl : g = [] := by
          rcases g with _ | ⟨a0, g⟩ <;> first | rfl | (exfalso; simp only [List.length_cons, List.length_nil] at hgl; omega)
        refine xo_holds rfl rfl rfl rfl (fun b2 b3 => ?_)
        exact xo_finE ⟨b2, b3, none⟩ rfl trivial
      refine DrawE.eff 1 rfl (by decide) rfl (fun j g a hj => ?_) (fun L g hg hd => hg.2.1 2 (hd 2 (by decide))) (fun g hgl hF τ => ?_) ?_
      · rcases j with _ | _ | _ | _ | _ | _ | _ | j
        all_goals first | rfl | (rcases g with _ | ⟨a0, _ | ⟨a1, _ | ⟨a2, g⟩⟩⟩ <;> first | rfl | exact absurd hj (by decide) | exact absurd hj (by simp [List.getD]))
      · obtain ⟨a0, rfl⟩ : ∃ a0, g = [a0] := by
          rcases g with _ | ⟨a0, _ | ⟨a1, _ | ⟨a2, g⟩⟩⟩ <;> first | exact ⟨_, rfl⟩ | rfl | (exfalso; simp only [List.length_cons, List.length_nil] at hgl; omega)
        refine xo_collect (r := r) hr hlen rfl rfl (by repeat (first | exact List.Mem.head _ | apply List.Mem.tail | apply List.mem_append_right)) (by repeat (first | exact List.Mem.head _ | apply List.Mem.tail | apply List.mem_append_right)) (by repeat (first | exact List.Mem.head _ | apply List.Mem.tail | apply List.mem_append_right)) (fun w1 hw1 => ne_of_nd hw1) rfl (fun rr hrr => ?_)
        exact xo_finE ⟨0, 0, rr⟩ rfl hrr
      refine DrawE.pure 0 rfl (fun L g hg hd => Nat.zero_le _) (fun g hlo hhi hF τ => ?_) ?_
      · rcases g with _ | ⟨a0, _ | ⟨a1, _ | ⟨a2, g⟩⟩⟩
        all_goals first
          | (exfalso; simp only [List.length_cons, List.length_nil] at hlo hhi; omega)
          | (refine ⟨_, rfl, ?_⟩
             refine xo_loadR0 T_ rfl rfl rfl (by first | assumption | exact RO.fld (by assumption) rfl) rfl ?_
             exact xo_fin rfl)
      refine DrawE.pure 2 rfl (fun L g hg hd => hg.2.1 3 (hd 3 (by decide))) (fun g hlo hhi hF τ => ?_) ?_
      · rcases g with _ | ⟨a0, _ | ⟨a1, _ | ⟨a2, g⟩⟩⟩
        all_goals first
          | (exfalso; simp only [List.length_cons, List.length_nil] at hlo hhi; omega)
          | (refine ⟨_, rfl, ?_⟩
             refine xo_callB (fs := []) (cs := []) rfl rfl rfl contains_enters rfl (fun w1 hw1 => containsR hw1 id (by omega) (hw1.rowAt (rr := a1.rr) hF (fun p hp => List.mem_append_left _ (by rw [hp]; exact List.Mem.head _)))) ?_
             exact xo_fin rfl)
      refine DrawE.pure 2 rfl (fun L g hg hd => hg.2.1 5 (hd 5 (by decide))) (fun g hlo hhi hF τ => ?_) ?_
      · rcases g with _ | ⟨a0, _ | ⟨a1, _ | ⟨a2, g⟩⟩⟩
        all_goals first
          | (exfalso; simp only [List.length_cons, List.length_nil] at hlo hhi; omega)
          | (refine ⟨_, rfl, ?_⟩
             refine xo_asg rfl rfl rfl ?_
             exact xo_fin rfl)
      exact DrawE.nil
    intro g hgl hF
    obtain ⟨a0, a1, rfl⟩ : ∃ a0 a1, g = [a0, a1] := by
      rcases g with _ | ⟨a0, _ | ⟨a1, _ | ⟨a2, g⟩⟩⟩ <;> first | exact ⟨_, _, rfl⟩ | (exfalso; simp only [List.length_cons, List.length_nil] at hgl; omega)
    with_reducible repeat (first | refine xq_then ?_ | refine xq_blockN ?_ | refine xq_scopeN ?_)
    with_reducible repeat refine xc_seq ?_
    with_reducible refine xc_ret ?_
    with_reducible repeat (first | refine xq_thenR ?_ | refine xq_blockR ?_ | refine xq_scopeR ?_)
    have hv : decide (id ∈ holdsF r acc2) = causeP r G id S := by rw [causeP, hcong]
    exact xq_ret1 rfl rfl fun w' hw => ⟨congrArg (fun b => Ending.returned (.bool b)) hv, hw.kx.below⟩
  · obtain ⟨k, hk, hk1, hk2⟩ := hE.setV he
    have hst := hseen.step hE he hns hk1
    have hlen2 : ys.length < S.length := by
      have := hst.len hE
      simp at this
      omega
    rw [hk1, hk2]
    refine xo_ext rfl rfl rfl rfl ?_
    with_reducible refine xo_nil ?_
    with_reducible repeat (first | refine xq_then ?_ | refine xq_blockN ?_ | refine xq_scopeN ?_)
    with_reducible repeat refine xc_seq ?_
    refine xc_condT rfl ?_
    with_reducible refine xc_skip ?_
    with_reducible repeat (first | refine xq_then ?_ | refine xq_blockN ?_ | refine xq_scopeN ?_)
    with_reducible repeat refine xc_seq ?_
    with_reducible refine xc_block ?_
    with_reducible repeat refine xc_seq ?_
    with_reducible refine xc_region ?_
    refine xo_entry rfl rfl (by repeat (first | exact List.Mem.head _ | apply List.Mem.tail | apply List.mem_append_right)) (by repeat (first | exact List.Mem.head _ | apply List.Mem.tail | apply List.mem_append_right)) hE he rfl ?_
    rw [hk1, hk2]
    refine xo_ext rfl rfl rfl rfl ?_
    refine xo_asg rfl rfl rfl ?_
    with_reducible refine xo_nil ?_
    with_reducible repeat (first | refine xq_then ?_ | refine xq_blockN ?_ | refine xq_scopeN ?_)
    with_reducible repeat refine xc_seq ?_
    with_reducible refine xc_region ?_
    refine xo_mv rfl rfl rfl ?_
    refine xo_mv rfl rfl rfl ?_
    refine xo_sdel T_ rfl rfl rfl rfl rfl (by repeat (first | exact List.Mem.head _ | apply List.Mem.tail | apply List.mem_append_right)) (by repeat (first | exact Upd.head | apply Upd.tail | apply Upd.app)) rfl ?_
    with_reducible refine xo_nil ?_
    with_reducible repeat (first | refine xq_then ?_ | refine xq_blockN ?_ | refine xq_scopeN ?_)
    refine xq_again _ _ _ _ _ (seen.push e.born, ys ++ [k], delN k acc2) ⟨hst, hnd2.erase _, fun n => ?_⟩ (by simp only [List.length_append, List.length_cons, List.length_nil]; omega) ⟨rfl, rfl, rfl, rfl, trivial⟩ (by repeat (first | exact List.Sublist.refl _ | apply List.Sublist.cons_cons | apply List.Sublist.cons | exact List.nil_sublist _))
    rw [mem_delN hnd2, hacc2, List.mem_append, List.mem_singleton, not_or]
    exact ⟨fun q => ⟨q.2.1, q.2.2, q.1⟩, fun q => ⟨q.2.2, q.1, q.2.1⟩⟩
theorem causes1_enters : ∀ args w, (callFunc 41 args).run Try.prog w = .ok (.enter 41 args) w := enters_of Try.func41 (by kernel_rfl) rfl
end Go.Proofs.Ytcmepdamemnbkaa
namespace Go.Proofs.Ytcmepdamemnbkaa
open Go.RowKit Go.Proofs.YtcmepdamemnbkaaW.PrintWords
set_option linter.unusedVariables false
set_option linter.unusedSimpArgs false
theorem idsL_lt {r : List RecT} (hs : SortedIds r) : (idsL r).Pairwise fun a b => a < b := by
  rw [List.pairwise_iff_getElem]
  intro i j hi hj hij
  have hi' : i < r.length := by simpa [idsL] using hi
  have hj' : j < r.length := by simpa [idsL] using hj
  have h1 : (idsL r)[i] = idAt r i := by have := idsL_at hi'; rw [List.getD_eq_getElem?_getD, List.getElem?_eq_getElem hi] at this; exact this
  have h2 : (idsL r)[j] = idAt r j := by have := idsL_at hj'; rw [List.getD_eq_getElem?_getD, List.getElem?_eq_getElem hj] at this; exact this
  rw [h1, h2]
  exact sorted_lt hs j i hij hj'
theorem sub_le {r : List RecT} (hs : SortedIds r) {xs : List Int} (h : xs.Sublist (idsL r)) : xs.Pairwise fun a b => decide (a ≤ b) = true :=
  ((idsL_lt hs).sublist h).imp fun h => by simpa using Int.le_of_lt h
theorem goneL_filter {l : List LetT} {day : Int} : ∀ (r : List RecT) (acc : List Int), (∀ n ∈ idsL r, n ∉ acc) → (idsL r).Nodup → goneL l day acc r = acc ++ (idsL r).filter (goneB l day)
  | [], acc, _, _ => by simp [goneL, idsL]
  | x :: r, acc, h, hn => by
    rw [idsL, List.map_cons, List.nodup_cons] at hn
    have h0 : x.f0 ∉ acc := h x.f0 (by simp [idsL])
    rw [goneL]
    by_cases hg : goneB l day x.f0 = true
    · rw [if_pos hg, insN, if_neg h0, goneL_filter r _ (fun n hn2 hm => ?_) hn.2, show idsL (x :: r) = x.f0 :: idsL r from rfl, List.filter_cons, if_pos hg, List.append_assoc]
      · rfl
      · rcases List.mem_append.1 hm with hm | hm
        · exact h n (by rw [idsL, List.map_cons]; exact List.mem_cons_of_mem _ hn2) hm
        · rw [List.mem_singleton] at hm
          exact hn.1 (hm ▸ hn2)
    · rw [if_neg hg, goneL_filter r acc (fun n hn2 => h n (by rw [idsL, List.map_cons]; exact List.mem_cons_of_mem _ hn2)) hn.2, show idsL (x :: r) = x.f0 :: idsL r from rfl, List.filter_cons, if_neg hg]
theorem goneF_filter {r : List RecT} (hs : SortedIds r) (l : List LetT) (day : Int) : goneF r l day = (idsL r).filter (goneB l day) := goneL_filter r [] (by simp) (idsL_nodup hs)
theorem goneF_sub {r : List RecT} (hs : SortedIds r) (l : List LetT) (day : Int) : (goneF r l day).Sublist (idsL r) := by
  rw [goneF_filter hs]
  exact List.filter_sublist
theorem restsR_eq {r : List RecT} {l : List LetT} {day id : Int} (ho : openF r l day [id] = 0) (hin : id ∈ holdsF r (goneF r l day)) : refRestsR r l day id = fewestF (holdsF r (goneF r l day)) (restP r id) := by
  obtain ⟨hok, hkn⟩ := refOpen_zero ho
  obtain ⟨a, h1, h2, h3⟩ := atF_known hkn
  rw [refRestsR, if_pos ⟨ho, hin⟩, h2, Int.toNat_natCast, ← rests_eq (sorted_of hok) _ h1, h3]
  rfl
theorem causesR_eq {r : List RecT} {l : List LetT} {day id : Int} (ho : openF r l day [id] = 0) (hin : id ∉ holdsF r (goneF r l day)) : refCausesR r l day id = fewestF (goneF r l day) (causeP r (goneF r l day) id) := by
  obtain ⟨hok, hkn⟩ := refOpen_zero ho
  obtain ⟨a, h1, h2, h3⟩ := atF_known hkn
  rw [refCausesR, if_pos ⟨ho, hin⟩, h2, Int.toNat_natCast, ← causes_eq (sorted_of hok) (goneF_sub (sorted_of hok) l day) h1 (by rw [h3]; exact hin), h3]
  rfl
end Go.Proofs.Ytcmepdamemnbkaa
namespace Go.Proofs.Ytcmepdamemnbkaa
open Go.RowKit Go.Proofs.YtcmepdamemnbkaaW.PrintWords
set_option linter.unusedVariables false
set_option linter.unusedSimpArgs false
theorem fewest_enters : ∀ args w, (callFunc 37 args).run Try.prog w = .ok (.enter 37 args) w := enters_of Try.func37 (by kernel_rfl) rfl
/-- the search over a row of a call's -/
theorem fewestR {w0 w : World} {X : Nat → Prop} {η : Hp} (hw : WOK w0 X η w) {rr : RowR} {xs : List Int} (h1 : RowAt 3 0 w rr xs) (p : List Int → Bool) (g : Nat) (cs : List Value) (eg : ∀ args w, (callFunc g args).run Try.prog w = .ok (.enter g args) w) (hp : AsksM Try.prog w g cs p)
    (hn : xs.Nodup) (hs : xs.Pairwise fun a b => decide (a ≤ b) = true) (hlen : xs.length ≤ 12) :
    Calls Try.prog 37 ([] ++ [valR rr xs.length, .func (.func g) #[] cs.toArray] ++ []).toArray w fun e w' => ∃ rr : RowR, e = .returned (valR rr (fewestF xs p).length) ∧ RowAt 3 w.heap.size w' rr (fewestF xs p) ∧ Below w.heap.size w w' := by
  obtain ⟨A, c, e1, _, hA⟩ := h1.C (by omega)
  rw [e1]
  exact fewest_calls p g cs eg A c xs w hA hp hn hs hlen
theorem fewestF_len (xs : List Int) (p : List Int → Bool) : (fewestF xs p).length ≤ xs.length := few_len xs p _
set_option maxHeartbeats 8000000 in
theorem trustRests_calls (A B : Option Addr) (c c' : Nat) (r : List RecT) (l : List LetT) (day id : Int) (w : World) (hr : Kd.C recK w A r.length r) (hl : Kd.C letK w B l.length l) (hk : Bytes r) (hkl : BytesL l) :
    Calls Try.prog 16 #[.slice A r.length c, .slice B l.length c', .int .i64 day, .int .i64 id] w fun e w' => ∃ rr : RowR, e = .returned (.tuple #[valR rr (refRestsR r l day id).length, .int .i64 (refRestsC r l day id)]) ∧ RowAt 3 w.heap.size w' rr (refRestsR r l day id) ∧ Below w.heap.size w w' := by
  refine x_calls (X := XNone) Try.func16 rfl rfl rfl ?_
  with_reducible repeat refine xc_seq ?_
  with_reducible refine xc_region ?_
  refine xo_box rfl rfl rfl rfl (fun b4 => ?_)
  refine xo_box rfl rfl rfl rfl (fun b7 => ?_)
  refine xo_asg rfl rfl rfl ?_
  refine xo_asg rfl rfl rfl ?_
  with_reducible refine xo_nil ?_
  with_reducible repeat (first | refine xq_then ?_ | refine xq_blockN ?_ | refine xq_scopeN ?_)
  by_cases ho : openF r l day [id] = 0
  rotate_left
  · have hd : (!decide (openF r l day [id] = 0)) = true := by simp [ho]
    have e1 : refRestsR r l day id = [] := by rw [refRestsR, if_neg (fun h => ho h.1)]
    have e2 : refRestsC r l day id = openF r l day [id] := by rw [refRestsC, if_neg ho]
    with_reducible repeat refine xc_seq ?_
    with_reducible refine xc_region ?_
    refine xo_load0 T_ rfl rfl rfl (by repeat (first | exact List.Mem.head _ | apply List.Mem.tail | apply List.mem_append_right)) rfl rfl ?_
    refine xo_mv rfl rfl rfl ?_
    refine xo_mv rfl rfl rfl ?_
    refine xo_load0 T_ rfl rfl rfl (by repeat (first | exact List.Mem.head _ | apply List.Mem.tail | apply List.mem_append_right)) rfl rfl ?_
    refine xo_bs1 T_ rfl rfl rfl rfl rfl rfl rfl rfl (fun b19 => ?_)
    refine xo_call (fs := []) (cs := []) rfl rfl rfl open_enters rfl (fun w1 hw1 => (open_calls A B (some ⟨b19, 0, none⟩) c c' 1 r l day [id] w1 (Kd.C_below hr hw1.kx.below) (Kd.C_below hl hw1.kx.below) (C_cel hw1 (xs := [id]) (List.Mem.head _) (by simp)) hk hkl).mono ?_)
    rintro e w2 ⟨sv, rfl, hb, hne, h0⟩
    obtain rfl := hne ho
    refine ⟨_, _, rfl, hw1.below hb, ?_⟩
    clear hb hne h0 hw1
    refine xo_mv rfl rfl rfl ?_
    refine xo_ext rfl rfl rfl rfl ?_
    refine xo_ext rfl rfl rfl rfl ?_
    refine xo_alloc T_ rfl rfl rfl rfl (fun b10 => ?_)
    refine xo_store T_ rfl rfl rfl rfl (by repeat (first | exact List.Mem.head _ | apply List.Mem.tail | apply List.mem_append_right)) rfl rfl rfl rfl (by repeat (first | exact Upd.head | apply Upd.tail | apply Upd.app)) rfl ?_
    refine xo_asg rfl rfl rfl ?_
    with_reducible refine xo_nil ?_
    with_reducible repeat (first | refine xq_then ?_ | refine xq_blockN ?_ | refine xq_scopeN ?_)
    with_reducible repeat refine xc_seq ?_
    with_reducible refine xc_region ?_
    refine xo_mv rfl rfl rfl ?_
    refine xo_neq rfl rfl rfl rfl ?_
    refine xo_as (i := 24) rfl (congrArg Value.bool hd) ?_
    with_reducible refine xo_nil ?_
    with_reducible repeat (first | refine xq_then ?_ | refine xq_blockN ?_ | refine xq_scopeN ?_)
    with_reducible repeat refine xc_seq ?_
    refine xc_condT rfl ?_
    with_reducible repeat refine xc_seq ?_
    with_reducible refine xc_region ?_
    refine xo_mv rfl rfl rfl ?_
    refine xo_asg rfl rfl rfl ?_
    refine xo_asg rfl rfl rfl ?_
    with_reducible refine xo_nil ?_
    with_reducible repeat (first | refine xq_then ?_ | refine xq_blockN ?_ | refine xq_scopeN ?_)
    with_reducible repeat refine xc_seq ?_
    with_reducible refine xc_ret ?_
    with_reducible repeat (first | refine xq_thenR ?_ | refine xq_blockR ?_ | refine xq_scopeR ?_)
    refine xq_ret2 rfl rfl rfl fun w' hw => ⟨none, by rw [e1, e2]; rfl, ?_, hw.kx.below⟩
    rw [e1]
    exact ⟨fun _ => rfl, fun p hp => by cases hp⟩
  have hd : (!decide (openF r l day [id] = 0)) = false := by simp [ho]
  obtain ⟨hok, hkn⟩ := refOpen_zero ho
  have hlen := recorded_len hok
  have hsrt := sorted_of hok
  have hsub := holdsF_sub hsrt (goneF r l day)
  have hll := holdsF_len r (goneF r l day)
  with_reducible repeat refine xc_seq ?_
  with_reducible refine xc_region ?_
  refine xo_load0 T_ rfl rfl rfl (by repeat (first | exact List.Mem.head _ | apply List.Mem.tail | apply List.mem_append_right)) rfl rfl ?_
  refine xo_mv rfl rfl rfl ?_
  refine xo_mv rfl rfl rfl ?_
  refine xo_load0 T_ rfl rfl rfl (by repeat (first | exact List.Mem.head _ | apply List.Mem.tail | apply List.mem_append_right)) rfl rfl ?_
  refine xo_bs1 T_ rfl rfl rfl rfl rfl rfl rfl rfl (fun b19 => ?_)
  refine xo_call (fs := []) (cs := []) rfl rfl rfl open_enters rfl (fun w1 hw1 => (open_calls A B (some ⟨b19, 0, none⟩) c c' 1 r l day [id] w1 (Kd.C_below hr hw1.kx.below) (Kd.C_below hl hw1.kx.below) (C_cel hw1 (xs := [id]) (List.Mem.head _) (by simp)) hk hkl).mono ?_)
  rintro e w2 ⟨sv, rfl, hb, hne, h0⟩
  obtain ⟨M, rfl, hM1, hM2⟩ := h0 ho
  obtain ⟨oM, hM3, hM4⟩ := hmap_of hM2
  refine ⟨_, _, rfl, hw1.more hb hM1 hM3 hM4, ?_⟩
  clear hb hM2 hM3 hM4 hne h0 hM1 hw1
  refine xo_mv rfl rfl rfl ?_
  refine xo_ext rfl rfl rfl rfl ?_
  refine xo_ext rfl rfl rfl rfl ?_
  refine xo_alloc T_ rfl rfl rfl rfl (fun b10 => ?_)
  refine xo_store T_ rfl rfl rfl rfl (by repeat (first | exact List.Mem.head _ | apply List.Mem.tail | apply List.mem_append_right)) rfl rfl rfl rfl (by repeat (first | exact Upd.head | apply Upd.tail | apply Upd.app)) rfl ?_
  refine xo_asg rfl rfl rfl ?_
  with_reducible refine xo_nil ?_
  with_reducible repeat (first | refine xq_then ?_ | refine xq_blockN ?_ | refine xq_scopeN ?_)
  with_reducible repeat refine xc_seq ?_
  with_reducible refine xc_region ?_
  refine xo_mv rfl rfl rfl ?_
  refine xo_neq rfl rfl rfl rfl ?_
  refine xo_as (i := 24) rfl (congrArg Value.bool hd) ?_
  with_reducible refine xo_nil ?_
  with_reducible repeat (first | refine xq_then ?_ | refine xq_blockN ?_ | refine xq_scopeN ?_)
  with_reducible repeat refine xc_seq ?_
  refine xc_condF rfl ?_
  with_reducible refine xc_skip ?_
  with_reducible repeat (first | refine xq_then ?_ | refine xq_blockN ?_ | refine xq_scopeN ?_)
  with_reducible repeat refine xc_seq ?_
  with_reducible refine xc_region ?_
  refine xo_loadN T_ rfl rfl rfl (by repeat (first | exact List.Mem.head _ | apply List.Mem.tail | apply List.mem_append_right)) rfl rfl ?_
  refine xo_fa T_ rfl rfl rfl rfl rfl ?_
  refine xo_load0 T_ rfl rfl rfl (by repeat (first | exact List.Mem.head _ | apply List.Mem.tail | apply List.mem_append_right)) rfl rfl ?_
  refine xo_holds rfl rfl rfl rfl (fun b2 b3 => ?_)
  refine xo_collect (r := r) hr (by omega) rfl rfl (by repeat (first | exact List.Mem.head _ | apply List.Mem.tail | apply List.mem_append_right)) (by repeat (first | exact List.Mem.head _ | apply List.Mem.tail | apply List.mem_append_right)) (by repeat (first | exact List.Mem.head _ | apply List.Mem.tail | apply List.mem_append_right)) (fun w1 hw1 => ne_of_nd hw1) rfl (fun rr hrr => ?_)
  refine xo_asg rfl rfl rfl ?_
  with_reducible refine xo_nil ?_
  with_reducible repeat (first | refine xq_then ?_ | refine xq_blockN ?_ | refine xq_scopeN ?_)
  with_reducible repeat refine xc_seq ?_
  with_reducible refine xc_region ?_
  refine xo_mv rfl rfl rfl ?_
  refine xo_load0 T_ rfl rfl rfl (by repeat (first | exact List.Mem.head _ | apply List.Mem.tail | apply List.mem_append_right)) rfl rfl ?_
  refine xo_callB (fs := []) (cs := []) rfl rfl rfl contains_enters rfl (fun w1 hw1 => containsR hw1 id (by omega) (hw1.rowAt hrr (fun p hp => by subst hp; exact (by repeat (first | exact List.Mem.head _ | exact List.mem_append_left _ (List.Mem.head _) | apply List.mem_append_right | apply List.Mem.tail))))) ?_
  refine xo_notOp rfl rfl rfl ?_
  with_reducible refine xo_nil ?_
  with_reducible repeat (first | refine xq_then ?_ | refine xq_blockN ?_ | refine xq_scopeN ?_)
  with_reducible repeat refine xc_seq ?_
  refine xc_cond rfl (fun hin => ?_) (fun hin => ?_)
  · have hin : id ∉ holdsF r (goneF r l day) := by simpa using hin
    have e1 : refRestsR r l day id = [] := by rw [refRestsR, if_neg (fun h => hin h.2)]
    have e2 : refRestsC r l day id = 8 := by rw [refRestsC, if_pos ho, if_neg hin]
    with_reducible repeat refine xc_seq ?_
    with_reducible refine xc_region ?_
    refine xo_asg rfl rfl rfl ?_
    refine xo_asg rfl rfl rfl ?_
    with_reducible refine xo_nil ?_
    with_reducible repeat (first | refine xq_then ?_ | refine xq_blockN ?_ | refine xq_scopeN ?_)
    with_reducible repeat refine xc_seq ?_
    with_reducible refine xc_ret ?_
    with_reducible repeat (first | refine xq_thenR ?_ | refine xq_blockR ?_ | refine xq_scopeR ?_)
    refine xq_ret2 rfl rfl rfl fun w' hw => ⟨none, by rw [e1, e2]; rfl, ?_, hw.kx.below⟩
    rw [e1]
    exact ⟨fun _ => rfl, fun p hp => by cases hp⟩
  have hin : id ∈ holdsF r (goneF r l day) := by simpa using hin
  have e1 := restsR_eq ho hin
  have e2 : refRestsC r l day id = 0 := by rw [refRestsC, if_pos ho, if_pos hin]
  with_reducible refine xc_skip ?_
  with_reducible repeat (first | refine xq_then ?_ | refine xq_blockN ?_ | refine xq_scopeN ?_)
  with_reducible repeat refine xc_seq ?_
  with_reducible refine xc_region ?_
  refine xo_mkf rfl rfl rfl rfl ?_
  refine xo_asg rfl rfl rfl ?_
  with_reducible refine xo_nil ?_
  with_reducible repeat (first | refine xq_then ?_ | refine xq_blockN ?_ | refine xq_scopeN ?_)
  with_reducible repeat refine xc_seq ?_
  with_reducible refine xc_region ?_
  refine xo_mv rfl rfl rfl ?_
  refine xo_mv rfl rfl rfl ?_
  refine xo_call (fs := []) (cs := []) rfl rfl rfl fewest_enters rfl (fun w1 hw1 => (fewestR hw1 (hw1.rowAt hrr (fun p hp => by subst hp; exact (by repeat (first | exact List.Mem.head _ | exact List.mem_append_left _ (List.Mem.head _) | apply List.mem_append_right | apply List.Mem.tail)))) (restP r id) 36 [.pointer (some ⟨b4, 0, none⟩), .pointer (some ⟨b7, 0, none⟩), .pointer (some ⟨b10, 0, none⟩)] rests1_enters (fun S M2 W hW hM2 hI hS => rests1_calls A c r id M b4 b7 b10 M2 S W (Kd.C_below hr (hw1.below hW).kx.below) (by omega) ((hw1.below hW).cell (by repeat (first | exact List.Mem.head _ | exact List.mem_append_left _ (List.Mem.head _) | apply List.mem_append_right | apply List.Mem.tail)) 0 rfl) ((hw1.below hW).cell (by repeat (first | exact List.Mem.head _ | exact List.mem_append_left _ (List.Mem.head _) | apply List.mem_append_right | apply List.Mem.tail)) 0 rfl) ((hw1.below hW).obj (by repeat (first | exact List.Mem.head _ | exact List.mem_append_left _ (List.Mem.head _) | apply List.mem_append_right | apply List.Mem.tail))) hI hS) (hsub.nodup (idsL_nodup hsrt)) (sub_le hsrt hsub) (by omega)).mono ?_)
  rintro e w2 ⟨r8, rfl, hrow, hb⟩
  have h08 := hrow.1
  refine ⟨_, _, rfl, hw1.row hb hrow, ?_⟩
  clear hrow hb hw1
  refine xo_asg rfl rfl rfl ?_
  refine xo_asg rfl rfl rfl ?_
  with_reducible refine xo_nil ?_
  with_reducible repeat (first | refine xq_then ?_ | refine xq_blockN ?_ | refine xq_scopeN ?_)
  with_reducible repeat refine xc_seq ?_
  with_reducible refine xc_ret ?_
  with_reducible repeat (first | refine xq_thenR ?_ | refine xq_blockR ?_ | refine xq_scopeR ?_)
  refine xq_ret2 rfl rfl rfl fun w' hw => ⟨r8, by rw [e1, e2], ?_, hw.kx.below⟩
  rw [e1]
  exact RowAt.of hw h08
theorem trustRests_enters : ∀ args w, (callFunc 16 args).run Try.prog w = .ok (.enter 16 args) w := enters_of Try.func16 (by kernel_rfl) rfl
end Go.Proofs.Ytcmepdamemnbkaa
namespace Go.Proofs.Ytcmepdamemnbkaa
open Go.RowKit Go.Proofs.YtcmepdamemnbkaaW.PrintWords
set_option linter.unusedVariables false
set_option linter.unusedSimpArgs false
set_option maxHeartbeats 8000000 in
theorem trustCauses_calls (A B : Option Addr) (c c' : Nat) (r : List RecT) (l : List LetT) (day id : Int) (w : World) (hr : Kd.C recK w A r.length r) (hl : Kd.C letK w B l.length l) (hk : Bytes r) (hkl : BytesL l) :
    Calls Try.prog 18 #[.slice A r.length c, .slice B l.length c', .int .i64 day, .int .i64 id] w fun e w' => ∃ rr : RowR, e = .returned (.tuple #[valR rr (refCausesR r l day id).length, .int .i64 (refCausesC r l day id)]) ∧ RowAt 3 w.heap.size w' rr (refCausesR r l day id) ∧ Below w.heap.size w w' := by
  refine x_calls (X := XNone) Try.func18 rfl rfl rfl ?_
  with_reducible repeat refine xc_seq ?_
  with_reducible refine xc_region ?_
  refine xo_box rfl rfl rfl rfl (fun b7 => ?_)
  refine xo_asg rfl rfl rfl ?_
  refine xo_asg rfl rfl rfl ?_
  with_reducible refine xo_nil ?_
  with_reducible repeat (first | refine xq_then ?_ | refine xq_blockN ?_ | refine xq_scopeN ?_)
  by_cases ho : openF r l day [id] = 0
  rotate_left
  · have hd : (!decide (openF r l day [id] = 0)) = true := by simp [ho]
    have e1 : refCausesR r l day id = [] := by rw [refCausesR, if_neg (fun h => ho h.1)]
    have e2 : refCausesC r l day id = openF r l day [id] := by rw [refCausesC, if_neg ho]
    with_reducible repeat refine xc_seq ?_
    with_reducible refine xc_region ?_
    refine xo_mv rfl rfl rfl ?_
    refine xo_mv rfl rfl rfl ?_
    refine xo_mv rfl rfl rfl ?_
    refine xo_load0 T_ rfl rfl rfl (by repeat (first | exact List.Mem.head _ | apply List.Mem.tail | apply List.mem_append_right)) rfl rfl ?_
    refine xo_bs1 T_ rfl rfl rfl rfl rfl rfl rfl rfl (fun b18 => ?_)
    refine xo_call (fs := []) (cs := []) rfl rfl rfl open_enters rfl (fun w1 hw1 => (open_calls A B (some ⟨b18, 0, none⟩) c c' 1 r l day [id] w1 (Kd.C_below hr hw1.kx.below) (Kd.C_below hl hw1.kx.below) (C_cel hw1 (xs := [id]) (List.Mem.head _) (by simp)) hk hkl).mono ?_)
    rintro e w2 ⟨sv, rfl, hb, hne, h0⟩
    obtain rfl := hne ho
    refine ⟨_, _, rfl, hw1.below hb, ?_⟩
    clear hb hne h0 hw1
    refine xo_mv rfl rfl rfl ?_
    refine xo_ext rfl rfl rfl rfl ?_
    refine xo_ext rfl rfl rfl rfl ?_
    refine xo_alloc T_ rfl rfl rfl rfl (fun b10 => ?_)
    refine xo_store T_ rfl rfl rfl rfl (by repeat (first | exact List.Mem.head _ | apply List.Mem.tail | apply List.mem_append_right)) rfl rfl rfl rfl (by repeat (first | exact Upd.head | apply Upd.tail | apply Upd.app)) rfl ?_
    refine xo_asg rfl rfl rfl ?_
    with_reducible refine xo_nil ?_
    with_reducible repeat (first | refine xq_then ?_ | refine xq_blockN ?_ | refine xq_scopeN ?_)
    with_reducible repeat refine xc_seq ?_
    with_reducible refine xc_region ?_
    refine xo_mv rfl rfl rfl ?_
    refine xo_neq rfl rfl rfl rfl ?_
    refine xo_as (i := 23) rfl (congrArg Value.bool hd) ?_
    with_reducible refine xo_nil ?_
    with_reducible repeat (first | refine xq_then ?_ | refine xq_blockN ?_ | refine xq_scopeN ?_)
    with_reducible repeat refine xc_seq ?_
    refine xc_condT rfl ?_
    with_reducible repeat refine xc_seq ?_
    with_reducible refine xc_region ?_
    refine xo_mv rfl rfl rfl ?_
    refine xo_asg rfl rfl rfl ?_
    refine xo_asg rfl rfl rfl ?_
    with_reducible refine xo_nil ?_
    with_reducible repeat (first | refine xq_then ?_ | refine xq_blockN ?_ | refine xq_scopeN ?_)
    with_reducible repeat refine xc_seq ?_
    with_reducible refine xc_ret ?_
    with_reducible repeat (first | refine xq_thenR ?_ | refine xq_blockR ?_ | refine xq_scopeR ?_)
    refine xq_ret2 rfl rfl rfl fun w' hw => ⟨none, by rw [e1, e2]; rfl, ?_, hw.kx.below⟩
    rw [e1]
    exact ⟨fun _ => rfl, fun p hp => by cases hp⟩
  have hd : (!decide (openF r l day [id] = 0)) = false := by simp [ho]
  obtain ⟨hok, hkn⟩ := refOpen_zero ho
  have hlen := recorded_len hok
  have hsrt := sorted_of hok
  have hsub := holdsF_sub hsrt (goneF r l day)
  have hll := holdsF_len r (goneF r l day)
  with_reducible repeat refine xc_seq ?_
  with_reducible refine xc_region ?_
  refine xo_mv rfl rfl rfl ?_
  refine xo_mv rfl rfl rfl ?_
  refine xo_mv rfl rfl rfl ?_
  refine xo_load0 T_ rfl rfl rfl (by repeat (first | exact List.Mem.head _ | apply List.Mem.tail | apply List.mem_append_right)) rfl rfl ?_
  refine xo_bs1 T_ rfl rfl rfl rfl rfl rfl rfl rfl (fun b18 => ?_)
  refine xo_call (fs := []) (cs := []) rfl rfl rfl open_enters rfl (fun w1 hw1 => (open_calls A B (some ⟨b18, 0, none⟩) c c' 1 r l day [id] w1 (Kd.C_below hr hw1.kx.below) (Kd.C_below hl hw1.kx.below) (C_cel hw1 (xs := [id]) (List.Mem.head _) (by simp)) hk hkl).mono ?_)
  rintro e w2 ⟨sv, rfl, hb, hne, h0⟩
  obtain ⟨M, rfl, hM1, hM2⟩ := h0 ho
  obtain ⟨oM, hM3, hM4⟩ := hmap_of hM2
  refine ⟨_, _, rfl, hw1.more hb hM1 hM3 hM4, ?_⟩
  clear hb hM2 hM3 hM4 hne h0 hM1 hw1
  refine xo_mv rfl rfl rfl ?_
  refine xo_ext rfl rfl rfl rfl ?_
  refine xo_ext rfl rfl rfl rfl ?_
  refine xo_alloc T_ rfl rfl rfl rfl (fun b10 => ?_)
  refine xo_store T_ rfl rfl rfl rfl (by repeat (first | exact List.Mem.head _ | apply List.Mem.tail | apply List.mem_append_right)) rfl rfl rfl rfl (by repeat (first | exact Upd.head | apply Upd.tail | apply Upd.app)) rfl ?_
  refine xo_asg rfl rfl rfl ?_
  with_reducible refine xo_nil ?_
  with_reducible repeat (first | refine xq_then ?_ | refine xq_blockN ?_ | refine xq_scopeN ?_)
  with_reducible repeat refine xc_seq ?_
  with_reducible refine xc_region ?_
  refine xo_mv rfl rfl rfl ?_
  refine xo_neq rfl rfl rfl rfl ?_
  refine xo_as (i := 23) rfl (congrArg Value.bool hd) ?_
  with_reducible refine xo_nil ?_
  with_reducible repeat (first | refine xq_then ?_ | refine xq_blockN ?_ | refine xq_scopeN ?_)
  with_reducible repeat refine xc_seq ?_
  refine xc_condF rfl ?_
  with_reducible refine xc_skip ?_
  with_reducible repeat (first | refine xq_then ?_ | refine xq_blockN ?_ | refine xq_scopeN ?_)
  have hgsub := goneF_sub hsrt l day
  have hgn := hgsub.nodup (idsL_nodup hsrt)
  have hgl := hgsub.length_le
  have hgl2 : (idsL r).length = r.length := by simp [idsL]
  have hsort := sortF_id (sub_le hsrt hgsub)
  with_reducible repeat refine xc_seq ?_
  apply xc_drawE (fun g => [(3, .func (.func 47) #[] #[.pointer (some ⟨(g.getD 0 gv0).b, 0, none⟩), .pointer (some ⟨(g.getD 0 gv0).c, 0, none⟩)]), (4, valR (g.getD 1 gv0).rr (holdsF r (goneF r l day)).length)]) (fun (η0 : Hp) g => match g with | [] => (η0) | a0 :: [] => ((a0.c, true, cel [.map (some M)] 44) :: (a0.b, true, cel [.slice A r.length c, .map (some M)] 46) :: η0) | a0 :: a1 :: _ => (hpR 3 1 a1.rr (holdsF r (goneF r l day)).length ((holdsF r (goneF r l day)).map (.int .i64)) ++ ((a0.c, true, cel [.map (some M)] 44) :: (a0.b, true, cel [.slice A r.length c, .map (some M)] 46) :: η0))) (fun g => match g with | _ :: a1 :: _ => (a1.rr = none → holdsF r (goneF r l day) = []) | _ => True) [0, 0, 0, 1, 2, 0, 2] [3, 4] (by trivial)
  apply SameLen.cons
  apply SameLen.cons
  apply SameLen.cons
  apply SameLen.cons (c := undef)
  apply SameLen.cons (c := undef)
  apply SameLen.cons
  apply SameLen.cons
  exact SameLen.nil
  rotate_left 5
  case hH0 => rfl
  case hmix => exact T_.mixed
  case hbind => rfl
  case hdeps => rfl
  case hdist => rfl
  case hfresh => rfl
  case hE => rfl
  case hEn => decide
  · refine DrawE.pure 0 rfl (fun L g hg hd => Nat.zero_le _) (fun g hlo hhi hF τ => ?_) ?_
    · rcases g with _ | ⟨a0, _ | ⟨a1, _ | ⟨a2, g⟩⟩⟩
      all_goals first
        | (exfalso; simp only [List.length_cons, List.length_nil] at hlo hhi; omega)
        | (refine ⟨_, rfl, ?_⟩
           refine xo_loadN T_ rfl rfl rfl (by repeat (first | exact List.Mem.head _ | apply List.Mem.tail | apply List.mem_append_right)) rfl rfl ?_
           exact xo_fin rfl)
    refine DrawE.pure 0 rfl (fun L g hg hd => Nat.zero_le _) (fun g hlo hhi hF τ => ?_) ?_
    · rcases g with _ | ⟨a0, _ | ⟨a1, _ | ⟨a2, g⟩⟩⟩
      all_goals first
        | (exfalso; simp only [List.length_cons, List.length_nil] at hlo hhi; omega)
        | (refine ⟨_, rfl, ?_⟩
           refine xo_fa T_ rfl rfl rfl rfl rfl ?_
           exact xo_fin rfl)
    refine DrawE.pure 0 rfl (fun L g hg hd => Nat.zero_le _) (fun g hlo hhi hF τ => ?_) ?_
    · rcases g with _ | ⟨a0, _ | ⟨a1, _ | ⟨a2, g⟩⟩⟩
      all_goals first
        | (exfalso; simp only [List.length_cons, List.length_nil] at hlo hhi; omega)
        | (refine ⟨_, rfl, ?_⟩
           refine xo_load0 T_ rfl rfl rfl (by repeat (first | exact List.Mem.head _ | apply List.Mem.tail | apply List.mem_append_right)) rfl rfl ?_
           exact xo_fin rfl)
    refine DrawE.eff 0 rfl (by decide) rfl (fun j g a hj => ?_) (fun L g hg hd => Nat.zero_le _) (fun g hgl hF τ => ?_) ?_
    · rcases j with _ | _ | _ | _ | _ | _ | _ | j
      all_goals first | rfl | (rcases g with _ | ⟨a0, _ | ⟨a1, _ | ⟨a2, g⟩⟩⟩ <;> first | rfl | exact absurd hj (by decide) | exact absurd hj (by simp [List.getD]))
    · obtain rfl : g = [] := by
        rcases g with _ | ⟨a0, g⟩ <;> first | rfl | (exfalso; simp only [List.length_cons, List.length_nil] at hgl; omega)
      refine xo_holds rfl rfl rfl rfl (fun b2 b3 => ?_)
      exact xo_finE ⟨b2, b3, none⟩ rfl trivial
    refine DrawE.eff 1 rfl (by decide) rfl (fun j g a hj => ?_) (fun L g hg hd => hg.2.1 3 (hd 3 (by decide))) (fun g hgl hF τ => ?_) ?_
    · rcases j with _ | _ | _ | _ | _ | _ | _ | j
      all_goals first | rfl | (rcases g with _ | ⟨a0, _ | ⟨a1, _ | ⟨a2, g⟩⟩⟩ <;> first | rfl | exact absurd hj (by decide) | exact absurd hj (by simp [List.getD]))
    · obtain ⟨a0, rfl⟩ : ∃ a0, g = [a0] := by
        rcases g with _ | ⟨a0, _ | ⟨a1, _ | ⟨a2, g⟩⟩⟩ <;> first | exact ⟨_, rfl⟩ | rfl | (exfalso; simp only [List.length_cons, List.length_nil] at hgl; omega)
      refine xo_collect (r := r) hr (by omega) rfl rfl (by repeat (first | exact List.Mem.head _ | apply List.Mem.tail | apply List.mem_append_right)) (by repeat (first | exact List.Mem.head _ | apply List.Mem.tail | apply List.mem_append_right)) (by repeat (first | exact List.Mem.head _ | apply List.Mem.tail | apply List.mem_append_right)) (fun w1 hw1 => ne_of_nd hw1) rfl (fun rr hrr => ?_)
      exact xo_finE ⟨0, 0, rr⟩ rfl hrr
    refine DrawE.pure 0 rfl (fun L g hg hd => Nat.zero_le _) (fun g hlo hhi hF τ => ?_) ?_
    · rcases g with _ | ⟨a0, _ | ⟨a1, _ | ⟨a2, g⟩⟩⟩
      all_goals first
        | (exfalso; simp only [List.length_cons, List.length_nil] at hlo hhi; omega)
        | (refine ⟨_, rfl, ?_⟩
           refine xo_load0 T_ rfl rfl rfl (by repeat (first | exact List.Mem.head _ | apply List.Mem.tail | apply List.mem_append_right)) rfl rfl ?_
           exact xo_fin rfl)
    refine DrawE.pure 2 rfl (fun L g hg hd => hg.2.1 4 (hd 4 (by decide))) (fun g hlo hhi hF τ => ?_) ?_
    · rcases g with _ | ⟨a0, _ | ⟨a1, _ | ⟨a2, g⟩⟩⟩
      all_goals first
        | (exfalso; simp only [List.length_cons, List.length_nil] at hlo hhi; omega)
        | (refine ⟨_, rfl, ?_⟩
           refine xo_callB (fs := []) (cs := []) rfl rfl rfl contains_enters rfl (fun w1 hw1 => containsR hw1 id (by omega) (hw1.rowAt (rr := a1.rr) hF (fun p hp => List.mem_append_left _ (by rw [hp]; exact List.Mem.head _)))) ?_
           exact xo_fin rfl)
    exact DrawE.nil
  intro g hgl hF
  obtain ⟨a0, a1, rfl⟩ : ∃ a0 a1, g = [a0, a1] := by
    rcases g with _ | ⟨a0, _ | ⟨a1, _ | ⟨a2, g⟩⟩⟩ <;> first | exact ⟨_, _, rfl⟩ | (exfalso; simp only [List.length_cons, List.length_nil] at hgl; omega)
  with_reducible repeat (first | refine xq_then ?_ | refine xq_blockN ?_ | refine xq_scopeN ?_)
  generalize a1.rr = rr at *
  with_reducible repeat refine xc_seq ?_
  refine xc_cond rfl (fun hin => ?_) (fun hin => ?_)
  · have hin : id ∈ holdsF r (goneF r l day) := by simpa using hin
    have e1 : refCausesR r l day id = [] := by rw [refCausesR, if_neg (fun h => h.2 hin)]
    have e2 : refCausesC r l day id = 8 := by rw [refCausesC, if_pos ho, if_pos hin]
    with_reducible repeat refine xc_seq ?_
    with_reducible refine xc_region ?_
    refine xo_asg rfl rfl rfl ?_
    refine xo_asg rfl rfl rfl ?_
    with_reducible refine xo_nil ?_
    with_reducible repeat (first | refine xq_then ?_ | refine xq_blockN ?_ | refine xq_scopeN ?_)
    with_reducible repeat refine xc_seq ?_
    with_reducible refine xc_ret ?_
    with_reducible repeat (first | refine xq_thenR ?_ | refine xq_blockR ?_ | refine xq_scopeR ?_)
    refine xq_ret2 rfl rfl rfl fun w' hw => ⟨none, by rw [e1, e2]; rfl, ?_, hw.kx.below⟩
    rw [e1]
    exact ⟨fun _ => rfl, fun p hp => by cases hp⟩
  have hin : id ∉ holdsF r (goneF r l day) := by simpa using hin
  have e1 := causesR_eq ho hin
  have e2 : refCausesC r l day id = 0 := by rw [refCausesC, if_pos ho, if_neg hin]
  with_reducible refine xc_skip ?_
  with_reducible repeat (first | refine xq_then ?_ | refine xq_blockN ?_ | refine xq_scopeN ?_)
  with_reducible repeat refine xc_seq ?_
  with_reducible refine xc_region ?_
  refine xo_mkf rfl rfl rfl rfl ?_
  refine xo_asg rfl rfl rfl ?_
  with_reducible refine xo_nil ?_
  with_reducible repeat (first | refine xq_then ?_ | refine xq_blockN ?_ | refine xq_scopeN ?_)
  with_reducible repeat refine xc_seq ?_
  with_reducible refine xc_region ?_
  refine xo_fa T_ rfl rfl rfl rfl rfl ?_
  refine xo_load0 T_ rfl rfl rfl (by repeat (first | exact List.Mem.head _ | apply List.Mem.tail | apply List.mem_append_right)) rfl rfl ?_
  refine xo_call (fs := []) (cs := []) rfl rfl rfl keys_enters rfl (fun w1 hw1 => (keys_calls M w1).mono ?_)
  rintro e w2 ⟨BK, rfl, hB1, hB2, hb⟩
  refine ⟨_, _, rfl, hw1.more (φ := cel [.map (some M)] 44) hb hB1 hB2 rfl, ?_⟩
  clear hB1 hB2 hb hw1
  refine xo_call (fs := []) (cs := []) rfl rfl rfl sorted_enters rfl (fun w1 hw1 => (sorted_calls 58 [.pointer (some ⟨BK, 0, none⟩)] keysIter_enters (fun k => k = BK ∨ k = M) (goneF r l day) (goneF r l day).length w1 (iter_keys (goneF r l day) M BK w1 (hw1.obj (wr := true) (cs := [.map (some M)]) (by repeat (first | exact List.Mem.head _ | exact List.mem_append_left _ (List.Mem.head _) | apply List.mem_append_right | apply List.Mem.tail))) (hw1.imap (wr := true) (by repeat (first | exact List.Mem.head _ | exact List.mem_append_left _ (List.Mem.head _) | apply List.mem_append_right | apply List.Mem.tail)))) (fun k hk => hk.elim (fun e => e ▸ hw1.lt (e := (BK, true, cel [.map (some M)] 44)) (by repeat (first | exact List.Mem.head _ | exact List.mem_append_left _ (List.Mem.head _) | apply List.mem_append_right | apply List.Mem.tail))) (fun e => e ▸ hw1.lt (e := (M, true, hmap (setV (goneF r l day)))) (by repeat (first | exact List.Mem.head _ | exact List.mem_append_left _ (List.Mem.head _) | apply List.mem_append_right | apply List.Mem.tail)))) (by omega) (by omega)).mono ?_)
  rintro e w2 ⟨r11, rfl, hrw, hb⟩
  rw [hsort] at hrw ⊢
  have h11 := hrw.1
  refine ⟨_, _, rfl, hw1.row hb hrw, ?_⟩
  clear hrw hb hw1
  refine xo_mv rfl rfl rfl ?_
  refine xo_call (fs := []) (cs := []) rfl rfl rfl fewest_enters rfl (fun w1 hw1 => (fewestR hw1 (hw1.rowAt h11 (fun p hp => by subst hp; exact (by repeat (first | exact List.Mem.head _ | exact List.mem_append_left _ (List.Mem.head _) | apply List.mem_append_right | apply List.Mem.tail)))) (causeP r (goneF r l day) id) 41 [.pointer (some ⟨b10, 0, none⟩), .pointer (some ⟨b7, 0, none⟩)] causes1_enters (fun S M2 W hW hM2 hI hS => causes1_calls A c r (goneF r l day) id M b10 b7 M2 S W (Kd.C_below hr (hw1.below hW).kx.below) (by omega) ((hw1.below hW).cell (by repeat (first | exact List.Mem.head _ | exact List.mem_append_left _ (List.Mem.head _) | apply List.mem_append_right | apply List.Mem.tail)) 0 rfl) ((hw1.below hW).obj (by repeat (first | exact List.Mem.head _ | exact List.mem_append_left _ (List.Mem.head _) | apply List.mem_append_right | apply List.Mem.tail))) ((hw1.below hW).imap (by repeat (first | exact List.Mem.head _ | exact List.mem_append_left _ (List.Mem.head _) | apply List.mem_append_right | apply List.Mem.tail))) hgn hI hS) hgn (sub_le hsrt hgsub) (by omega)).mono ?_)
  rintro e w2 ⟨r8, rfl, hrow, hb⟩
  have h08 := hrow.1
  refine ⟨_, _, rfl, hw1.row hb hrow, ?_⟩
  clear hrow hb hw1
  refine xo_asg rfl rfl rfl ?_
  refine xo_asg rfl rfl rfl ?_
  with_reducible refine xo_nil ?_
  with_reducible repeat (first | refine xq_then ?_ | refine xq_blockN ?_ | refine xq_scopeN ?_)
  with_reducible repeat refine xc_seq ?_
  with_reducible refine xc_ret ?_
  with_reducible repeat (first | refine xq_thenR ?_ | refine xq_blockR ?_ | refine xq_scopeR ?_)
  refine xq_ret2 rfl rfl rfl fun w' hw => ⟨r8, by rw [e1, e2], ?_, hw.kx.below⟩
  rw [e1]
  exact RowAt.of hw h08
theorem trustCauses_enters : ∀ args w, (callFunc 18 args).run Try.prog w = .ok (.enter 18 args) w := enters_of Try.func18 (by kernel_rfl) rfl
end Go.Proofs.Ytcmepdamemnbkaa
namespace Go.Proofs.Ytcmepdamemnbkaa
open Go.RowKit Go.Proofs.YtcmepdamemnbkaaW.PrintWords
set_option linter.unusedVariables false
set_option linter.unusedSimpArgs false
set_option maxHeartbeats 16000000 in
theorem trustRests_law (A B : Option Addr) (c c' : Nat) (r : List RecT) (l : List LetT) (day id : Int) (w : World) (hr : Kd.C recK w A r.length r) (hl : Kd.C letK w B l.length l) (hk : Bytes r) (hkl : BytesL l) :
    Calls Try.prog 4 #[.slice A r.length c, .slice B l.length c', .int .i64 day, .int .i64 id] w fun e w' => e = .returned (.bool true) ∧ Below w.heap.size w w' := by
  refine x_calls (X := XNone) Try.func4 rfl rfl rfl ?_
  with_reducible repeat refine xc_seq ?_
  with_reducible refine xc_region ?_
  refine xo_asg rfl rfl rfl ?_
  with_reducible refine xo_nil ?_
  with_reducible repeat (first | refine xq_then ?_ | refine xq_blockN ?_ | refine xq_scopeN ?_)
  with_reducible repeat refine xc_seq ?_
  with_reducible refine xc_region ?_
  refine xo_mv rfl rfl rfl ?_
  refine xo_mv rfl rfl rfl ?_
  refine xo_call (fs := []) (cs := []) rfl rfl rfl great_enters rfl (fun w1 hw1 => (great_calls A B none c c' 0 0 r l w1 (Kd.C_below hr hw1.kx.below) (Kd.C_below hl hw1.kx.below)).mono ?_)
  rintro e w2 ⟨gb, rfl, hb, hgr⟩
  refine ⟨_, _, rfl, hw1.below hb, ?_⟩
  clear hb hw1
  with_reducible refine xo_nil ?_
  with_reducible repeat (first | refine xq_then ?_ | refine xq_blockN ?_ | refine xq_scopeN ?_)
  with_reducible repeat refine xc_seq ?_
  refine xc_cond rfl (fun h1 => ?_) (fun h1 => ?_)
  · with_reducible repeat refine xc_seq ?_
    with_reducible refine xc_region ?_
    refine xo_asg rfl rfl rfl ?_
    with_reducible refine xo_nil ?_
    with_reducible repeat (first | refine xq_then ?_ | refine xq_blockN ?_ | refine xq_scopeN ?_)
    with_reducible repeat refine xc_seq ?_
    with_reducible refine xc_ret ?_
    with_reducible repeat (first | refine xq_thenR ?_ | refine xq_blockR ?_ | refine xq_scopeR ?_)
    exact xq_ret1 rfl rfl fun w' hw => ⟨rfl, hw.kx.below⟩
  obtain ⟨hsm, hl30⟩ := hgr h1
  have hr13 := hsm.1
  with_reducible refine xc_skip ?_
  with_reducible repeat (first | refine xq_then ?_ | refine xq_blockN ?_ | refine xq_scopeN ?_)
  with_reducible repeat refine xc_seq ?_
  with_reducible refine xc_region ?_
  refine xo_mv rfl rfl rfl ?_
  refine xo_callR (fs := []) (cs := []) rfl rfl rfl twin_enters rfl (fun w1 hw1 => (twin_calls A c r w1 (Kd.C_below hr hw1.kx.below) hsm).mono ?_)
  rintro e W ⟨bt, capt, rfl, hb, hct, hrt⟩
  have hwW := (hw1.kx.then_below hb).below
  have hrW := Kd.C_below hr hwW
  have hlW := Kd.C_below hl hwW
  clear hb hw1 hr hl
  obtain ⟨cells, hcl1, hcl2, hcl3, hcl4⟩ := C_cells hlW (d := letK) (by decide)
  have hB0 : B = none → l.length = 0 := fun e => by
    subst e
    by_cases h : l.length = 0
    · exact h
    · obtain ⟨ad, e, _⟩ := hlW.2.2 (by omega)
      cases e
  refine ⟨_, rfl, ?_⟩
  refine xo_bs0 T_ 4 rfl rfl rfl rfl (fun b0 => ?_)
  refine xo_mv rfl rfl rfl ?_
  refine xo_appE TR_ rfl rfl rfl rfl rfl rfl rfl rfl (by rw [flat_len 4 cells hcl2, hcl1]) hB0 (fun p e w1 hw1 j u hj => hw1.kx.cell (hcl4 p e j u hj) (fun h => h)) (fun u hu => by obtain ⟨c, hc, hu⟩ := List.mem_flatten.1 hu; obtain ⟨j, hj, rfl⟩ := List.getElem_of_mem hc; exact letK.K_one (hcl3 j _ _ (List.getElem?_eq_getElem (by omega)) (List.getElem?_eq_getElem hj)) u hu) (by omega) rfl rfl (fun b3 cap3 => ?_)
  refine xo_asg rfl rfl rfl ?_
  refine xo_asg rfl rfl rfl ?_
  with_reducible refine xo_nil ?_
  with_reducible repeat (first | refine xq_then ?_ | refine xq_blockN ?_ | refine xq_scopeN ?_)
  have hlo : ∀ {η : Hp} {w1 : World}, WOK W XNone η w1 → (b3, true, orow 65 4 l.length cap3 cells.flatten) ∈ η → Kd.C letK w1 (some ⟨b3, 0, none⟩) l.length l := fun hw1 hm => letters_own hw1 hm hcl1 hcl2 (fun j x c hx hc => k65_open (hcl3 j x c hx hc)) (by omega)
  have hH : (refRestsR r l day id).length ≤ 1000000 := by
    by_cases ho : openF r l day [id] = 0 ∧ id ∈ holdsF r (goneF r l day)
    · rw [restsR_eq ho.1 ho.2]
      have := fewestF_len (holdsF r (goneF r l day)) (restP r id)
      have := holdsF_len r (goneF r l day)
      omega
    · rw [refRestsR, if_neg ho]
      simp
  have hT : (refCausesR r l day id).length ≤ 1000000 := by
    by_cases ho : openF r l day [id] = 0 ∧ id ∉ holdsF r (goneF r l day)
    · rw [causesR_eq ho.1 ho.2]
      have := fewestF_len (goneF r l day) (causeP r (goneF r l day) id)
      have := (goneF_sub (sorted_of (refOpen_zero ho.1).1) l day).length_le
      have : (idsL r).length = r.length := by simp [idsL]
      omega
    · rw [refCausesR, if_neg ho]
      simp
  with_reducible repeat refine xc_seq ?_
  with_reducible refine xc_region ?_
  refine xo_mv rfl rfl rfl ?_
  refine xo_mv rfl rfl rfl ?_
  refine xo_mv rfl rfl rfl ?_
  refine xo_mv rfl rfl rfl ?_
  refine xo_call (fs := []) (cs := []) rfl rfl rfl trustRests_enters rfl (fun w1 hw1 => (trustRests_calls (some ⟨bt, 0, none⟩) (some ⟨b3, 0, none⟩) capt cap3 r l day id w1 (Kd.C_below hrt hw1.kx.below) (hlo hw1 (by repeat (first | exact List.Mem.head _ | exact List.mem_append_left _ (List.Mem.head _) | apply List.mem_append_right | apply List.Mem.tail))) hk hkl).mono ?_)
  rintro e w2 ⟨r1, rfl, hrow, hb⟩
  have h01 := hrow.1
  refine ⟨_, _, rfl, hw1.row hb hrow, ?_⟩
  clear hrow hb hw1
  refine xo_mv rfl rfl rfl ?_
  refine xo_ext rfl rfl rfl rfl ?_
  refine xo_ext rfl rfl rfl rfl ?_
  refine xo_asg rfl rfl rfl ?_
  refine xo_asg rfl rfl rfl ?_
  with_reducible refine xo_nil ?_
  with_reducible repeat (first | refine xq_then ?_ | refine xq_blockN ?_ | refine xq_scopeN ?_)
  with_reducible repeat refine xc_seq ?_
  with_reducible refine xc_region ?_
  refine xo_mv rfl rfl rfl ?_
  refine xo_mv rfl rfl rfl ?_
  refine xo_mv rfl rfl rfl ?_
  refine xo_mv rfl rfl rfl ?_
  refine xo_call (fs := []) (cs := []) rfl rfl rfl refRests_enters rfl (fun w1 hw1 => (refRests_calls A B c c' r l day id w1 (Kd.C_below hrW hw1.kx.below) (Kd.C_below hlW hw1.kx.below) hk hkl).mono ?_)
  rintro e w2 ⟨r2, rfl, hrow, hb⟩
  have h02 := hrow.1
  refine ⟨_, _, rfl, hw1.row hb hrow, ?_⟩
  clear hrow hb hw1
  refine xo_mv rfl rfl rfl ?_
  refine xo_ext rfl rfl rfl rfl ?_
  refine xo_ext rfl rfl rfl rfl ?_
  refine xo_asg rfl rfl rfl ?_
  refine xo_asg rfl rfl rfl ?_
  with_reducible refine xo_nil ?_
  with_reducible repeat (first | refine xq_then ?_ | refine xq_blockN ?_ | refine xq_scopeN ?_)
  with_reducible repeat refine xc_seq ?_
  with_reducible refine xc_region ?_
  refine xo_mv rfl rfl rfl ?_
  refine xo_mv rfl rfl rfl ?_
  refine xo_mv rfl rfl rfl ?_
  refine xo_mv rfl rfl rfl ?_
  refine xo_call (fs := []) (cs := []) rfl rfl rfl trustCauses_enters rfl (fun w1 hw1 => (trustCauses_calls (some ⟨bt, 0, none⟩) (some ⟨b3, 0, none⟩) capt cap3 r l day id w1 (Kd.C_below hrt hw1.kx.below) (hlo hw1 (by repeat (first | exact List.Mem.head _ | exact List.mem_append_left _ (List.Mem.head _) | apply List.mem_append_right | apply List.Mem.tail))) hk hkl).mono ?_)
  rintro e w2 ⟨r3, rfl, hrow, hb⟩
  have h03 := hrow.1
  refine ⟨_, _, rfl, hw1.row hb hrow, ?_⟩
  clear hrow hb hw1
  refine xo_mv rfl rfl rfl ?_
  refine xo_ext rfl rfl rfl rfl ?_
  refine xo_ext rfl rfl rfl rfl ?_
  refine xo_asg rfl rfl rfl ?_
  refine xo_asg rfl rfl rfl ?_
  with_reducible refine xo_nil ?_
  with_reducible repeat (first | refine xq_then ?_ | refine xq_blockN ?_ | refine xq_scopeN ?_)
  with_reducible repeat refine xc_seq ?_
  with_reducible refine xc_region ?_
  refine xo_mv rfl rfl rfl ?_
  refine xo_mv rfl rfl rfl ?_
  refine xo_mv rfl rfl rfl ?_
  refine xo_mv rfl rfl rfl ?_
  refine xo_call (fs := []) (cs := []) rfl rfl rfl refCauses_enters rfl (fun w1 hw1 => (refCauses_calls A B c c' r l day id w1 (Kd.C_below hrW hw1.kx.below) (Kd.C_below hlW hw1.kx.below) hk hkl).mono ?_)
  rintro e w2 ⟨r4, rfl, hrow, hb⟩
  have h04 := hrow.1
  refine ⟨_, _, rfl, hw1.row hb hrow, ?_⟩
  clear hrow hb hw1
  refine xo_mv rfl rfl rfl ?_
  refine xo_ext rfl rfl rfl rfl ?_
  refine xo_ext rfl rfl rfl rfl ?_
  refine xo_asg rfl rfl rfl ?_
  refine xo_asg rfl rfl rfl ?_
  with_reducible refine xo_nil ?_
  with_reducible repeat (first | refine xq_then ?_ | refine xq_blockN ?_ | refine xq_scopeN ?_)
  with_reducible repeat refine xc_seq ?_
  with_reducible refine xc_region ?_
  refine xo_mv rfl rfl rfl ?_
  refine xo_mv rfl rfl rfl ?_
  refine xo_callB (fs := []) (cs := []) rfl rfl rfl sameInts_enters rfl (fun w1 hw1 => sameRows hw1 hH (hw1.rowAt h01 (fun p hp => by subst hp; exact (by repeat (first | exact List.Mem.head _ | exact List.mem_append_left _ (List.Mem.head _) | apply List.mem_append_right | apply List.Mem.tail)))) (hw1.rowAt h02 (fun p hp => by subst hp; exact (by repeat (first | exact List.Mem.head _ | exact List.mem_append_left _ (List.Mem.head _) | apply List.mem_append_right | apply List.Mem.tail))))) ?_
  refine xo_mv rfl rfl rfl ?_
  first
    | refine xo_not rfl rfl ?_
    | (refine xo_mv rfl rfl rfl ?_)
  first
    | refine xo_not rfl rfl ?_
    | (refine xo_mv rfl rfl rfl ?_)
  first
    | refine xo_not rfl rfl ?_
    | (refine xo_eql rfl rfl rfl rfl ?_)
  refine xo_as (i := 65) rfl (congrArg Value.bool eq_tt) ?_
  first | refine xo_pickT rfl rfl rfl rfl ?_ | refine xo_pickF rfl rfl rfl rfl ?_
  refine xo_mv rfl rfl rfl ?_
  first
    | refine xo_not rfl rfl ?_
    | (refine xo_mv rfl rfl rfl ?_)
  first
    | refine xo_not rfl rfl ?_
    | (refine xo_mv rfl rfl rfl ?_)
  first
    | refine xo_not rfl rfl ?_
    | (refine xo_callB (fs := []) (cs := []) rfl rfl rfl sameInts_enters rfl (fun w1 hw1 => sameRows hw1 hT (hw1.rowAt h03 (fun p hp => by subst hp; exact (by repeat (first | exact List.Mem.head _ | exact List.mem_append_left _ (List.Mem.head _) | apply List.mem_append_right | apply List.Mem.tail)))) (hw1.rowAt h04 (fun p hp => by subst hp; exact (by repeat (first | exact List.Mem.head _ | exact List.mem_append_left _ (List.Mem.head _) | apply List.mem_append_right | apply List.Mem.tail))))) ?_)
  first | refine xo_pickT rfl rfl rfl rfl ?_ | refine xo_pickF rfl rfl rfl rfl ?_
  refine xo_mv rfl rfl rfl ?_
  first
    | refine xo_not rfl rfl ?_
    | (refine xo_mv rfl rfl rfl ?_)
  first
    | refine xo_not rfl rfl ?_
    | (refine xo_mv rfl rfl rfl ?_)
  first
    | refine xo_not rfl rfl ?_
    | (refine xo_eql rfl rfl rfl rfl ?_)
  refine xo_as (i := 75) rfl (congrArg Value.bool eq_tt) ?_
  first | refine xo_pickT rfl rfl rfl rfl ?_ | refine xo_pickF rfl rfl rfl rfl ?_
  refine xo_mv rfl rfl rfl ?_
  first
    | refine xo_not rfl rfl ?_
    | (refine xo_mv rfl rfl rfl ?_)
  first
    | refine xo_not rfl rfl ?_
    | (refine xo_mv rfl rfl rfl ?_)
  first
    | refine xo_not rfl rfl ?_
    | (refine xo_callB (fs := []) (cs := []) rfl rfl rfl same_enters rfl (fun w1 hw1 => same_calls (some ⟨bt, 0, none⟩) A capt c r w1 (Kd.C_below hrt hw1.kx.below) (Kd.C_below hrW hw1.kx.below)) ?_)
  first | refine xo_pickT rfl rfl rfl rfl ?_ | refine xo_pickF rfl rfl rfl rfl ?_
  refine xo_mv rfl rfl rfl ?_
  first
    | refine xo_not rfl rfl ?_
    | (refine xo_mv rfl rfl rfl ?_)
  first
    | refine xo_not rfl rfl ?_
    | (refine xo_mv rfl rfl rfl ?_)
  first
    | refine xo_not rfl rfl ?_
    | (refine xo_callB (fs := []) (cs := []) rfl rfl rfl sameLetters_enters rfl (fun w1 hw1 => sameLetters_calls (some ⟨b3, 0, none⟩) B cap3 c' l w1 (hlo hw1 (by repeat (first | exact List.Mem.head _ | exact List.mem_append_left _ (List.Mem.head _) | apply List.mem_append_right | apply List.Mem.tail))) (Kd.C_below hlW hw1.kx.below)) ?_)
  first | refine xo_pickT rfl rfl rfl rfl ?_ | refine xo_pickF rfl rfl rfl rfl ?_
  refine xo_asg rfl rfl rfl ?_
  with_reducible refine xo_nil ?_
  with_reducible repeat (first | refine xq_then ?_ | refine xq_blockN ?_ | refine xq_scopeN ?_)
  with_reducible repeat refine xc_seq ?_
  with_reducible refine xc_ret ?_
  with_reducible repeat (first | refine xq_thenR ?_ | refine xq_blockR ?_ | refine xq_scopeR ?_)
  refine xq_ret1 rfl rfl fun w' hw => ⟨rfl, ?_⟩
  have h1 := hw.kx.below
  have h2 : Kx XNone w W := Kx.of_below hwW
  exact (h2.then_below h1).below
end Go.Proofs.Ytcmepdamemnbkaa
