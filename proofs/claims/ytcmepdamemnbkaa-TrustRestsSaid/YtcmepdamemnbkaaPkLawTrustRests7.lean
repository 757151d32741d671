/- ref08: members, Carries, Ahead. / ref08: Ahead, Rests. / cmp.Compare, slices.Compare of rows that are equally long. / maps.Clone of a set: a copy. / ref08.Rests: the walk. / ref08.Causes. / The least list that is good: both searches find it. Plain Lean. / What records rest on, and causes: both searches go over the same good lists. Plain Lean. / trust.fewest: the search over a row's sets. -/
import Derived.Test.YtcmepdamemnbkaaPkLawTrustRests5
import Derived.Test.YtcmepdamemnbkaaPkLawTrustRests6
import Derived.Shelf.SlMaps.Clone
namespace Go.Proofs.Ytcmepdamemnbkaa
open Go.RowKit Go.Proofs.YtcmepdamemnbkaaW.PrintWords
set_option linter.unusedVariables false
set_option linter.unusedSimpArgs false
def bitB (k i : Nat) : Bool := decide (((k / 2 ^ i % 2 : Nat) : Int) = 1)
def memB (n k : Nat) : List Bool := (List.range n).map (bitB k)
theorem memB_succ (n k : Nat) : memB (n + 1) k = memB n k ++ [bitB k n] := by simp [memB, List.range_succ]
theorem memB_len (n k : Nat) : (memB n k).length = n := by simp [memB]
/-- the ids that a mask picks -/
def selM (r : List RecT) (k : Nat) : List Int := ((List.range r.length).filter (bitB k)).map (idAt r)
theorem selM_iff {r : List RecT} (hs : SortedIds r) {k i : Nat} (hi : i < r.length) : idAt r i ∈ selM r k ↔ bitB k i = true := by
  simp only [selM, List.mem_map, List.mem_filter, List.mem_range]
  constructor
  · rintro ⟨j, ⟨h1, h2⟩, h3⟩
    rwa [sorted_inj hs h1 hi h3] at h2
  · intro h
    exact ⟨i, ⟨hi, h⟩, rfl⟩
theorem memB_in {r : List RecT} (hs : SortedIds r) (k : Nat) : memB r.length k = inB r (selM r k) := by
  apply List.ext_getElem?
  intro i
  rw [inB_at]
  by_cases h : i < r.length
  · rw [if_pos h]
    simp only [memB, List.getElem?_map, List.getElem?_range h, Option.map_some]
    congr 1
    rw [Bool.eq_iff_iff, decide_eq_true_eq, selM_iff hs h]
  · rw [if_neg h, List.getElem?_eq_none_iff, memB_len]
    omega
set_option maxHeartbeats 4000000 in
theorem members_calls (A : Option Addr) (c : Nat) (r : List RecT) (k : Nat) (w : World) (hlen : r.length ≤ 40) (hk : k < 9223372036854775808) :
    Calls Try.prog 38 #[.slice A r.length c, .int .i64 (k : Int)] w fun e w' => ∃ rr : RowR, e = .returned (valR rr r.length) ∧ RowV 4 w.heap.size w' rr ((memB r.length k).map .bool) ∧ Below w.heap.size w w' := by
  refine x_calls (X := XNone) Try.func38 rfl rfl rfl ?_
  with_reducible repeat refine xc_seq ?_
  with_reducible refine xc_region ?_
  refine xo_asg rfl rfl rfl ?_
  with_reducible refine xo_nil ?_
  with_reducible repeat (first | refine xq_then ?_ | refine xq_blockN ?_ | refine xq_scopeN ?_)
  with_reducible repeat refine xc_seq ?_
  with_reducible refine xc_region ?_
  refine xo_asg rfl rfl rfl ?_
  with_reducible refine xo_nil ?_
  with_reducible repeat (first | refine xq_then ?_ | refine xq_blockN ?_ | refine xq_scopeN ?_)
  with_reducible repeat refine xc_seq ?_
  with_reducible refine xc_region ?_
  refine xo_asg rfl rfl rfl ?_
  with_reducible refine xo_nil ?_
  with_reducible repeat (first | refine xq_then ?_ | refine xq_blockN ?_ | refine xq_scopeN ?_)
  with_reducible repeat refine xc_seq ?_
  with_reducible refine xc_block ?_
  refine xc_loop (γ := Nat × RowR) (fun q => q.1 ≤ r.length ∧ (q.2 = none → q.1 = 0)) (fun q => [(0, .slice A r.length c), (1, .int .i64 (k : Int)), (5, valR q.2 q.1), (6, .int .i64 (q.1 : Int))])
    (fun q => hpR 4 1 q.2 q.1 ((memB q.1 k).map .bool) ++ []) (fun q => r.length - q.1) (0, none) ⟨Nat.zero_le _, fun _ => rfl⟩ ⟨rfl, rfl, rfl, rfl, trivial⟩ (List.nil_sublist _) ?_
  rintro ⟨i, rr⟩ ⟨hi1, hrr⟩
  simp only at hi1 hrr ⊢
  with_reducible repeat refine xc_seq ?_
  with_reducible refine xc_region ?_
  refine xo_mv rfl rfl rfl ?_
  refine xo_mv rfl rfl rfl ?_
  refine xo_len T_ rfl rfl rfl rfl ?_
  refine xo_lss rfl rfl rfl rfl ?_
  with_reducible refine xo_nil ?_
  with_reducible repeat (first | refine xq_then ?_ | refine xq_blockN ?_ | refine xq_scopeN ?_)
  with_reducible repeat refine xc_seq ?_
  refine xc_cond rfl (fun h => ?_) (fun h => ?_)
  · have hlt : i < r.length := by have := of_decide_eq_true h; omega
    with_reducible refine xc_skip ?_
    with_reducible repeat (first | refine xq_then ?_ | refine xq_blockN ?_ | refine xq_scopeN ?_)
    with_reducible repeat refine xc_seq ?_
    with_reducible refine xc_block ?_
    with_reducible repeat refine xc_seq ?_
    with_reducible refine xc_region ?_
    refine xo_mv rfl rfl rfl ?_
    refine xo_mv rfl rfl rfl ?_
    refine xo_mv rfl rfl rfl ?_
    refine xo_shr rfl rfl rfl (by omega) rfl ?_
    refine xo_and1 rfl rfl rfl (Nat.lt_of_le_of_lt (Nat.div_le_self _ _) hk) rfl ?_
    refine xo_eql rfl rfl rfl rfl ?_
    refine xo_bs1 T_ rfl rfl rfl rfl rfl rfl rfl rfl (fun b19 => ?_)
    refine xo_app TR_ rfl rfl rfl rfl rfl rfl rfl rfl (by simp [memB_len]) rfl rfl hrr (by omega) rfl rfl (fun r' hr' => ?_)
    refine xo_asg rfl rfl rfl ?_
    with_reducible refine xo_nil ?_
    with_reducible repeat (first | refine xq_then ?_ | refine xq_blockN ?_ | refine xq_scopeN ?_)
    with_reducible repeat refine xc_seq ?_
    with_reducible refine xc_region ?_
    refine xo_mv rfl rfl rfl ?_
    refine xo_add rfl rfl rfl (by omega) rfl ?_
    refine xo_asg rfl rfl rfl ?_
    with_reducible refine xo_nil ?_
    with_reducible repeat (first | refine xq_then ?_ | refine xq_blockN ?_ | refine xq_scopeN ?_)
    refine xq_again _ _ _ _ _ (i + 1, r') ⟨hlt, fun h => absurd h hr'⟩ (by first | omega | (simp only; omega)) ⟨rfl, rfl, rfl, rfl, trivial⟩ ?_
    simp only [memB_succ, List.map_append, List.append_nil]
    exact List.Sublist.refl _
  · have hge : ¬ i < r.length := by have := of_decide_eq_false h; omega
    have hii : i = r.length := by omega
    subst hii
    with_reducible refine xc_exit ?_
    with_reducible repeat (first | refine xq_blockX ?_ | refine xq_thenE ?_ | refine xq_blockE rfl ?_ | refine xq_scopeE ?_)
    with_reducible repeat (first | refine xq_then ?_ | refine xq_blockN ?_ | refine xq_scopeN ?_)
    with_reducible repeat refine xc_seq ?_
    with_reducible refine xc_region ?_
    refine xo_mv rfl rfl rfl ?_
    refine xo_asg rfl rfl rfl ?_
    with_reducible refine xo_nil ?_
    with_reducible repeat (first | refine xq_then ?_ | refine xq_blockN ?_ | refine xq_scopeN ?_)
    with_reducible repeat refine xc_seq ?_
    with_reducible refine xc_ret ?_
    with_reducible repeat (first | refine xq_thenR ?_ | refine xq_blockR ?_ | refine xq_scopeR ?_)
    refine xq_ret1 rfl rfl fun w' hw => ⟨rr, rfl, ?_, hw.kx.below⟩
    have hl : ((memB r.length k).map Value.bool).length = r.length := by rw [List.length_map, memB_len]
    refine RowV.of (η := []) (by rw [hl]; exact hw) fun h => ?_
    rw [hrr h]
    rfl
theorem members_enters : ∀ args w, (callFunc 38 args).run Try.prog w = .ok (.enter 38 args) w := enters_of Try.func38 (by kernel_rfl) rfl
/-- the ids of r that are not in S -/
def compl (r : List RecT) (S : List Int) : List Int := idsF r fun n => !decide (n ∈ S)
theorem compl_mem {r : List RecT} {S : List Int} {i : Nat} (hi : i < r.length) : idAt r i ∈ compl r S ↔ idAt r i ∉ S := by
  simp only [compl, idsF, List.mem_map, List.mem_filter, Bool.not_eq_true', decide_eq_false_iff_not]
  constructor
  · rintro ⟨x, ⟨_, h1⟩, h2⟩
    rwa [← h2]
  · intro h
    exact ⟨r.getD i zRec, ⟨getD_mem r zRec i hi, h⟩, rfl⟩
theorem fill_compl (r : List RecT) (S : List Int) : fillB (fun i => !decide (idAt r i ∈ S)) r.length r.length = inB r (compl r S) := by
  apply List.ext_getElem?
  intro i
  rw [inB_at]
  by_cases h : i < r.length
  · rw [fillB_get _ _ _ _ h, if_pos h]
    congr 1
    rw [decide_eq_true h, Bool.true_and, Bool.eq_iff_iff, decide_eq_true_eq, compl_mem h]
    simp
  · rw [if_neg h, List.getElem?_eq_none_iff, fillB_len]
    omega
def carriesF (r : List RecT) (S : List Int) : Bool := (List.range r.length).all fun i => !decide (idAt r i ∈ S) || decide (idAt r i ∈ holdsF r (compl r S))
set_option maxHeartbeats 8000000 in
theorem carries_calls (A B : Option Addr) (c c' : Nat) (r : List RecT) (S : List Int) (w : World) (hr : Kd.C recK w A r.length r) (hg : Kd.C Kd.bool w B r.length (inB r S)) (hok : recordedF r = true) :
    Calls Try.prog 39 #[.slice A r.length c, .slice B r.length c'] w fun e w' => e = .returned (.bool (carriesF r S)) ∧ Below w.heap.size w w' := by
  have hlen := recorded_len hok
  refine x_calls (X := XNone) Try.func39 rfl rfl rfl ?_
  with_reducible repeat refine xc_seq ?_
  with_reducible refine xc_region ?_
  refine xo_asg rfl rfl rfl ?_
  with_reducible refine xo_nil ?_
  with_reducible repeat (first | refine xq_then ?_ | refine xq_blockN ?_ | refine xq_scopeN ?_)
  with_reducible repeat refine xc_seq ?_
  with_reducible refine xc_region ?_
  refine xo_mv rfl rfl rfl ?_
  refine xo_len T_ rfl rfl rfl rfl ?_
  refine xo_mks TR_ rfl rfl rfl rfl rfl rfl (by omega) (by omega) rfl (fun b5 => ?_)
  refine xo_asg rfl rfl rfl ?_
  with_reducible refine xo_nil ?_
  with_reducible repeat (first | refine xq_then ?_ | refine xq_blockN ?_ | refine xq_scopeN ?_)
  with_reducible repeat refine xc_seq ?_
  with_reducible refine xc_region ?_
  refine xo_asg rfl rfl rfl ?_
  with_reducible refine xo_nil ?_
  with_reducible repeat (first | refine xq_then ?_ | refine xq_blockN ?_ | refine xq_scopeN ?_)
  with_reducible repeat refine xc_seq ?_
  with_reducible refine xc_block ?_
  refine xc_loop (γ := Nat) (fun k => k ≤ r.length) (fun k => [(0, .slice A r.length c), (1, .slice B r.length c'), (5, .slice (some ⟨b5, 0, none⟩) r.length r.length), (6, .int .i64 (k : Int))])
    (fun k => [(b5, true, cel ((fillB (fun i => !decide (idAt r i ∈ S)) r.length k).map .bool) 4)]) (fun k => r.length - k) 0 (Nat.zero_le _) ⟨rfl, rfl, rfl, rfl, trivial⟩ (by rw [fillB_zero, List.map_replicate]; exact List.Sublist.refl _) ?_
  intro k hk1
  with_reducible repeat refine xc_seq ?_
  with_reducible refine xc_region ?_
  refine xo_mv rfl rfl rfl ?_
  refine xo_mv rfl rfl rfl ?_
  refine xo_len T_ rfl rfl rfl rfl ?_
  refine xo_lss rfl rfl rfl rfl ?_
  with_reducible refine xo_nil ?_
  with_reducible repeat (first | refine xq_then ?_ | refine xq_blockN ?_ | refine xq_scopeN ?_)
  with_reducible repeat refine xc_seq ?_
  refine xc_cond rfl (fun h => ?_) (fun h => ?_)
  · have hlt : k < r.length := by have := of_decide_eq_true h; omega
    obtain ⟨bd, rfl, r2⟩ := bool_at hg k hlt
    rw [inB_get hlt] at r2
    with_reducible refine xc_skip ?_
    with_reducible repeat (first | refine xq_then ?_ | refine xq_blockN ?_ | refine xq_scopeN ?_)
    with_reducible repeat refine xc_seq ?_
    with_reducible refine xc_block ?_
    with_reducible repeat refine xc_seq ?_
    with_reducible refine xc_region ?_
    refine xo_mv rfl rfl rfl ?_
    refine xo_mv rfl rfl rfl ?_
    refine xo_mv rfl rfl rfl ?_
    refine xo_mv rfl rfl rfl ?_
    refine xo_ia T_ rfl rfl rfl rfl rfl ⟨by omega, by omega⟩ rfl ?_
    refine xo_loadR0 T_ rfl rfl rfl (by first | assumption | exact RO.fld (by assumption) rfl) rfl ?_
    refine xo_notOp rfl rfl rfl ?_
    refine xo_ia T_ rfl rfl rfl rfl rfl ⟨by omega, by omega⟩ rfl ?_
    refine xo_storeI T_ rfl rfl rfl rfl (by repeat (first | exact List.Mem.head _ | apply List.Mem.tail | apply List.mem_append_right)) rfl rfl (fill_lt hlt) (fill_upd (f := fun i => !decide (idAt r i ∈ S)) rfl) rfl ?_
    with_reducible refine xo_nil ?_
    with_reducible repeat (first | refine xq_then ?_ | refine xq_blockN ?_ | refine xq_scopeN ?_)
    with_reducible repeat refine xc_seq ?_
    with_reducible refine xc_region ?_
    refine xo_mv rfl rfl rfl ?_
    refine xo_add rfl rfl rfl (by omega) rfl ?_
    refine xo_asg rfl rfl rfl ?_
    with_reducible refine xo_nil ?_
    with_reducible repeat (first | refine xq_then ?_ | refine xq_blockN ?_ | refine xq_scopeN ?_)
    exact xq_again _ _ _ _ _ (k + 1) (by omega) (by omega) ⟨rfl, rfl, rfl, rfl, trivial⟩ (by repeat (first | exact List.Sublist.refl _ | apply List.Sublist.cons_cons | apply List.Sublist.cons | exact List.nil_sublist _))
  · have hge : ¬ k < r.length := by have := of_decide_eq_false h; omega
    have hkk : k = r.length := by omega
    subst hkk
    rw [fill_compl]
    with_reducible refine xc_exit ?_
    with_reducible repeat (first | refine xq_blockX ?_ | refine xq_thenE ?_ | refine xq_blockE rfl ?_ | refine xq_scopeE ?_)
    with_reducible repeat (first | refine xq_then ?_ | refine xq_blockN ?_ | refine xq_scopeN ?_)
    with_reducible repeat refine xc_seq ?_
    with_reducible refine xc_region ?_
    refine xo_mv rfl rfl rfl ?_
    refine xo_mv rfl rfl rfl ?_
    refine xo_call (fs := []) (cs := []) rfl rfl rfl hold_enters rfl (fun w1 hw1 => (hold_calls A _ c _ r (compl r S) w1 (Kd.C_below hr hw1.kx.below) (C_inB hw1 (by repeat (first | exact List.Mem.head _ | apply List.Mem.tail | apply List.mem_append_right)) (by omega)) hok).mono ?_)
    rintro e w3 ⟨bh, oh, rfl, hb, hge, h1, h2⟩
    refine ⟨_, _, rfl, hw1.more hb hge h1 h2, ?_⟩
    clear hb hge h1 h2 hw1
    refine xo_asg rfl rfl rfl ?_
    with_reducible refine xo_nil ?_
    with_reducible repeat (first | refine xq_then ?_ | refine xq_blockN ?_ | refine xq_scopeN ?_)
    with_reducible repeat refine xc_seq ?_
    with_reducible refine xc_region ?_
    refine xo_asg rfl rfl rfl ?_
    with_reducible refine xo_nil ?_
    with_reducible repeat (first | refine xq_then ?_ | refine xq_blockN ?_ | refine xq_scopeN ?_)
    with_reducible repeat refine xc_seq ?_
    with_reducible refine xc_block ?_
    refine xc_loop (γ := Nat) (fun k => k ≤ r.length ∧ ∀ i, i < k → (!decide (idAt r i ∈ S) || decide (idAt r i ∈ holdsF r (compl r S))) = true) (fun k => [(0, .slice A r.length c), (1, .slice B r.length c'), (7, .slice (some ⟨bh, 0, none⟩) r.length r.length), (8, .int .i64 (k : Int))])
      (fun k => [(bh, true, cel ((inB r (holdsF r (compl r S))).map .bool) 4)]) (fun k => r.length - k) 0 ⟨Nat.zero_le _, fun i hi => absurd hi (by simp)⟩ ⟨rfl, rfl, rfl, rfl, trivial⟩ (by repeat (first | exact List.Sublist.refl _ | apply List.Sublist.cons_cons | apply List.Sublist.cons | exact List.nil_sublist _)) ?_
    rintro k ⟨hk1, hall⟩
    with_reducible repeat refine xc_seq ?_
    with_reducible refine xc_region ?_
    refine xo_mv rfl rfl rfl ?_
    refine xo_mv rfl rfl rfl ?_
    refine xo_len T_ rfl rfl rfl rfl ?_
    refine xo_lss rfl rfl rfl rfl ?_
    with_reducible refine xo_nil ?_
    with_reducible repeat (first | refine xq_then ?_ | refine xq_blockN ?_ | refine xq_scopeN ?_)
    with_reducible repeat refine xc_seq ?_
    refine xc_cond rfl (fun h => ?_) (fun h => ?_)
    · have hlt : k < r.length := by have := of_decide_eq_true h; omega
      obtain ⟨bd, rfl, r2⟩ := bool_at hg k hlt
      rw [inB_get hlt] at r2
      with_reducible refine xc_skip ?_
      with_reducible repeat (first | refine xq_then ?_ | refine xq_blockN ?_ | refine xq_scopeN ?_)
      with_reducible repeat refine xc_seq ?_
      with_reducible refine xc_block ?_
      refine xc_cut (γ := Unit) (fun _ => True) (fun _ => [(0, .slice A r.length c), (1, .slice (some bd) r.length c'), (7, .slice (some ⟨bh, 0, none⟩) r.length r.length), (8, .int .i64 (k : Int)), (45, .bool (decide (idAt r k ∈ S) && !decide (idAt r k ∈ holdsF r (compl r S))))]) (fun _ => [(bh, true, cel ((inB r (holdsF r (compl r S))).map .bool) 4)]) ?_ (fun _ _ => ?_)
      · cases hq : decide (idAt r k ∈ S)
        all_goals
          rw [hq] at r2
          with_reducible repeat refine xc_seq ?_
          with_reducible refine xc_region ?_
          refine xo_mv rfl rfl rfl ?_
          refine xo_mv rfl rfl rfl ?_
          refine xo_ia T_ rfl rfl rfl rfl rfl ⟨by omega, by omega⟩ rfl ?_
          refine xo_loadR0 T_ rfl rfl rfl (by first | assumption | exact RO.fld (by assumption) rfl) rfl ?_
          refine xo_mv rfl rfl rfl ?_
          first
            | refine xo_not rfl rfl ?_
            | (refine xo_mv rfl rfl rfl ?_)
          first
            | refine xo_not rfl rfl ?_
            | (refine xo_mv rfl rfl rfl ?_)
          first
            | refine xo_not rfl rfl ?_
            | (refine xo_ia T_ rfl rfl rfl rfl rfl ⟨by omega, by omega⟩ rfl ?_)
          first
            | refine xo_not rfl rfl ?_
            | (refine xo_loadI T_ rfl rfl rfl (by repeat (first | exact List.Mem.head _ | apply List.Mem.tail | apply List.mem_append_right)) (in_load hlt) rfl ?_)
          first
            | refine xo_not rfl rfl ?_
            | (refine xo_notOp rfl rfl rfl ?_)
          first | refine xo_pickT rfl rfl rfl rfl ?_ | refine xo_pickF rfl rfl rfl rfl ?_
          with_reducible refine xo_nil ?_
          with_reducible repeat (first | refine xq_then ?_ | refine xq_blockN ?_ | refine xq_scopeN ?_)
          exact xq_meet _ _ _ () trivial ⟨rfl, rfl, rfl, rfl, rfl, trivial⟩ (by repeat (first | exact List.Sublist.refl _ | apply List.Sublist.cons_cons | apply List.Sublist.cons | exact List.nil_sublist _))
      with_reducible repeat refine xc_seq ?_
      refine xc_cond rfl (fun hb => ?_) (fun hb => ?_)
      · with_reducible repeat refine xc_seq ?_
        with_reducible refine xc_region ?_
        refine xo_asg rfl rfl rfl ?_
        with_reducible refine xo_nil ?_
        with_reducible repeat (first | refine xq_then ?_ | refine xq_blockN ?_ | refine xq_scopeN ?_)
        with_reducible repeat refine xc_seq ?_
        with_reducible refine xc_ret ?_
        with_reducible repeat (first | refine xq_thenR ?_ | refine xq_blockR ?_ | refine xq_scopeR ?_)
        refine xq_ret1 rfl rfl fun w' hw => ⟨?_, hw.kx.below⟩
        have : carriesF r S = false := by
          cases h1 : carriesF r S with
          | false => rfl
          | true =>
            rw [carriesF, List.all_eq_true] at h1
            have := h1 k (List.mem_range.2 hlt)
            simp only [Bool.and_eq_true, Bool.not_eq_true', decide_eq_false_iff_not, decide_eq_true_eq] at hb
            simp [hb.1, hb.2] at this
        rw [this]
      with_reducible refine xc_skip ?_
      with_reducible repeat (first | refine xq_then ?_ | refine xq_blockN ?_ | refine xq_scopeN ?_)
      with_reducible repeat refine xc_seq ?_
      with_reducible refine xc_region ?_
      refine xo_mv rfl rfl rfl ?_
      refine xo_add rfl rfl rfl (by omega) rfl ?_
      refine xo_asg rfl rfl rfl ?_
      with_reducible refine xo_nil ?_
      with_reducible repeat (first | refine xq_then ?_ | refine xq_blockN ?_ | refine xq_scopeN ?_)
      refine xq_again _ _ _ _ _ (k + 1) ⟨by omega, fun i hi => ?_⟩ (by omega) ⟨rfl, rfl, rfl, rfl, trivial⟩ (by repeat (first | exact List.Sublist.refl _ | apply List.Sublist.cons_cons | apply List.Sublist.cons | exact List.nil_sublist _))
      by_cases e : i = k
      · subst e
        cases h1 : decide (idAt r i ∈ S) <;> cases h2 : decide (idAt r i ∈ holdsF r (compl r S)) <;> simp [h1, h2] at hb ⊢
      · exact hall i (by omega)
    · have hge : ¬ k < r.length := by have := of_decide_eq_false h; omega
      with_reducible refine xc_exit ?_
      with_reducible repeat (first | refine xq_blockX ?_ | refine xq_thenE ?_ | refine xq_blockE rfl ?_ | refine xq_scopeE ?_)
      with_reducible repeat (first | refine xq_then ?_ | refine xq_blockN ?_ | refine xq_scopeN ?_)
      with_reducible repeat refine xc_seq ?_
      with_reducible refine xc_region ?_
      refine xo_asg rfl rfl rfl ?_
      with_reducible refine xo_nil ?_
      with_reducible repeat (first | refine xq_then ?_ | refine xq_blockN ?_ | refine xq_scopeN ?_)
      with_reducible repeat refine xc_seq ?_
      with_reducible refine xc_ret ?_
      with_reducible repeat (first | refine xq_thenR ?_ | refine xq_blockR ?_ | refine xq_scopeR ?_)
      refine xq_ret1 rfl rfl fun w' hw => ⟨?_, hw.kx.below⟩
      have : carriesF r S = true := by
        rw [carriesF, List.all_eq_true]
        intro i hi
        exact hall i (by have := List.mem_range.1 hi; omega)
      rw [this]
theorem carries_enters : ∀ args w, (callFunc 39 args).run Try.prog w = .ok (.enter 39 args) w := enters_of Try.func39 (by kernel_rfl) rfl
end Go.Proofs.Ytcmepdamemnbkaa
namespace Go.Proofs.Ytcmepdamemnbkaa
open Go.RowKit Go.Proofs.YtcmepdamemnbkaaW.PrintWords
set_option linter.unusedVariables false
set_option linter.unusedSimpArgs false
def lexF : List Int → List Int → Bool
  | x :: a, y :: b => if x = y then lexF a b else decide (x < y)
  | _, _ => false
def aheadF (xs ys : List Int) : Bool := if xs.length = ys.length then lexF xs ys else decide (xs.length < ys.length)
set_option maxHeartbeats 4000000 in
theorem ahead_calls (A B : Option Addr) (c c' : Nat) (xs ys : List Int) (w : World) (hr : Kd.C (Kd.int .i64) w A xs.length xs) (hl : Kd.C (Kd.int .i64) w B ys.length ys) :
    Calls Try.prog 40 #[.slice A xs.length c, .slice B ys.length c'] w fun e w' => e = .returned (.bool (aheadF xs ys)) ∧ Below w.heap.size w w' := by
  have hn := hr.2.1
  refine x_calls (X := XNone) Try.func40 rfl rfl rfl ?_
  with_reducible repeat refine xc_seq ?_
  with_reducible refine xc_region ?_
  refine xo_asg rfl rfl rfl ?_
  with_reducible refine xo_nil ?_
  with_reducible repeat (first | refine xq_then ?_ | refine xq_blockN ?_ | refine xq_scopeN ?_)
  with_reducible repeat refine xc_seq ?_
  with_reducible refine xc_region ?_
  refine xo_mv rfl rfl rfl ?_
  refine xo_len T_ rfl rfl rfl rfl ?_
  refine xo_mv rfl rfl rfl ?_
  refine xo_len T_ rfl rfl rfl rfl ?_
  refine xo_neq rfl rfl rfl rfl ?_
  with_reducible refine xo_nil ?_
  with_reducible repeat (first | refine xq_then ?_ | refine xq_blockN ?_ | refine xq_scopeN ?_)
  with_reducible repeat refine xc_seq ?_
  refine xc_cond rfl (fun h1 => ?_) (fun h1 => ?_)
  · have h1 : xs.length ≠ ys.length := by simp at h1; omega
    with_reducible repeat refine xc_seq ?_
    with_reducible refine xc_region ?_
    refine xo_mv rfl rfl rfl ?_
    refine xo_len T_ rfl rfl rfl rfl ?_
    refine xo_mv rfl rfl rfl ?_
    refine xo_len T_ rfl rfl rfl rfl ?_
    refine xo_lss rfl rfl rfl rfl ?_
    refine xo_asg rfl rfl rfl ?_
    with_reducible refine xo_nil ?_
    with_reducible repeat (first | refine xq_then ?_ | refine xq_blockN ?_ | refine xq_scopeN ?_)
    with_reducible repeat refine xc_seq ?_
    with_reducible refine xc_ret ?_
    with_reducible repeat (first | refine xq_thenR ?_ | refine xq_blockR ?_ | refine xq_scopeR ?_)
    exact xq_ret1 rfl rfl fun w' hw => ⟨by rw [aheadF, if_neg h1]; simp, hw.kx.below⟩
  have h1 : xs.length = ys.length := by simp at h1; omega
  with_reducible refine xc_skip ?_
  with_reducible repeat (first | refine xq_then ?_ | refine xq_blockN ?_ | refine xq_scopeN ?_)
  with_reducible repeat refine xc_seq ?_
  with_reducible refine xc_region ?_
  refine xo_asg rfl rfl rfl ?_
  with_reducible refine xo_nil ?_
  with_reducible repeat (first | refine xq_then ?_ | refine xq_blockN ?_ | refine xq_scopeN ?_)
  with_reducible repeat refine xc_seq ?_
  with_reducible refine xc_block ?_
  refine xc_loop (γ := Nat) (fun k => k ≤ xs.length ∧ lexF xs ys = lexF (xs.drop k) (ys.drop k)) (fun k => [(0, .slice A xs.length c), (1, .slice B ys.length c'), (5, .int .i64 (k : Int))]) (fun _ => []) (fun k => xs.length - k) 0
    ⟨Nat.zero_le _, rfl⟩ ⟨rfl, rfl, rfl, trivial⟩ (List.Sublist.refl _) ?_
  rintro k ⟨hk, hlex⟩
  with_reducible repeat refine xc_seq ?_
  with_reducible refine xc_region ?_
  refine xo_mv rfl rfl rfl ?_
  refine xo_mv rfl rfl rfl ?_
  refine xo_len T_ rfl rfl rfl rfl ?_
  refine xo_lss rfl rfl rfl rfl ?_
  with_reducible refine xo_nil ?_
  with_reducible repeat (first | refine xq_then ?_ | refine xq_blockN ?_ | refine xq_scopeN ?_)
  with_reducible repeat refine xc_seq ?_
  refine xc_cond rfl (fun h => ?_) (fun h => ?_)
  · have hlt : k < xs.length := by have := of_decide_eq_true h; omega
    obtain ⟨ad, rfl, r1⟩ := int_at hr k hlt
    obtain ⟨bd, rfl, r2⟩ := int_at hl k (by omega)
    rw [drop_at xs 0 k hlt, drop_at ys 0 k (by omega), lexF] at hlex
    with_reducible refine xc_skip ?_
    with_reducible repeat (first | refine xq_then ?_ | refine xq_blockN ?_ | refine xq_scopeN ?_)
    with_reducible repeat refine xc_seq ?_
    with_reducible refine xc_block ?_
    with_reducible repeat refine xc_seq ?_
    apply xc_drawN
    · exact T_.mixed
    · rfl
    · rfl
    · rfl
    · rfl
    · apply DrawOps.cons
      · intro τ
        refine xo_mv rfl rfl rfl ?_
        exact xo_fin rfl
      apply DrawOps.cons
      · intro τ
        refine xo_mv rfl rfl rfl ?_
        exact xo_fin rfl
      apply DrawOps.cons
      · intro τ
        refine xo_ia T_ rfl rfl rfl rfl rfl ⟨by omega, by omega⟩ rfl ?_
        exact xo_fin rfl
      apply DrawOps.cons
      · intro τ
        refine xo_loadR0 T_ rfl rfl rfl (by first | assumption | exact RO.fld (by assumption) rfl) rfl ?_
        exact xo_fin rfl
      apply DrawOps.cons
      · intro τ
        refine xo_mv rfl rfl rfl ?_
        exact xo_fin rfl
      apply DrawOps.cons
      · intro τ
        refine xo_mv rfl rfl rfl ?_
        exact xo_fin rfl
      apply DrawOps.cons
      · intro τ
        refine xo_ia T_ rfl rfl rfl rfl rfl ⟨by omega, by omega⟩ rfl ?_
        exact xo_fin rfl
      apply DrawOps.cons
      · intro τ
        refine xo_loadR0 T_ rfl rfl rfl (by first | assumption | exact RO.fld (by assumption) rfl) rfl ?_
        exact xo_fin rfl
      apply DrawOps.cons
      · intro τ
        refine xo_neq rfl rfl rfl rfl ?_
        exact xo_fin rfl
      exact DrawOps.nil
    · rfl
    with_reducible repeat (first | refine xq_then ?_ | refine xq_blockN ?_ | refine xq_scopeN ?_)
    with_reducible repeat refine xc_seq ?_
    refine xc_cond rfl (fun h2 => ?_) (fun h2 => ?_)
    · have h2 : xs.getD k 0 ≠ ys.getD k 0 := by simpa using h2
      with_reducible repeat refine xc_seq ?_
      apply xc_drawN
      · exact T_.mixed
      · rfl
      · rfl
      · rfl
      · rfl
      · apply DrawOps.cons
        · intro τ
          refine xo_mv rfl rfl rfl ?_
          exact xo_fin rfl
        apply DrawOps.cons
        · intro τ
          refine xo_mv rfl rfl rfl ?_
          exact xo_fin rfl
        apply DrawOps.cons
        · intro τ
          refine xo_ia T_ rfl rfl rfl rfl rfl ⟨by omega, by omega⟩ rfl ?_
          exact xo_fin rfl
        apply DrawOps.cons
        · intro τ
          refine xo_loadR0 T_ rfl rfl rfl (by first | assumption | exact RO.fld (by assumption) rfl) rfl ?_
          exact xo_fin rfl
        apply DrawOps.cons
        · intro τ
          refine xo_mv rfl rfl rfl ?_
          exact xo_fin rfl
        apply DrawOps.cons
        · intro τ
          refine xo_mv rfl rfl rfl ?_
          exact xo_fin rfl
        apply DrawOps.cons
        · intro τ
          refine xo_ia T_ rfl rfl rfl rfl rfl ⟨by omega, by omega⟩ rfl ?_
          exact xo_fin rfl
        apply DrawOps.cons
        · intro τ
          refine xo_loadR0 T_ rfl rfl rfl (by first | assumption | exact RO.fld (by assumption) rfl) rfl ?_
          exact xo_fin rfl
        apply DrawOps.cons
        · intro τ
          refine xo_lss rfl rfl rfl rfl ?_
          exact xo_fin rfl
        apply DrawOps.cons
        · intro τ
          refine xo_asg rfl rfl rfl ?_
          exact xo_fin rfl
        exact DrawOps.nil
      · rfl
      with_reducible repeat (first | refine xq_then ?_ | refine xq_blockN ?_ | refine xq_scopeN ?_)
      with_reducible repeat refine xc_seq ?_
      with_reducible refine xc_ret ?_
      with_reducible repeat (first | refine xq_thenR ?_ | refine xq_blockR ?_ | refine xq_scopeR ?_)
      exact xq_ret1 rfl rfl fun w' hw => ⟨by rw [aheadF, if_pos h1, hlex, if_neg h2], hw.kx.below⟩
    have h2 : xs.getD k 0 = ys.getD k 0 := by simpa using h2
    with_reducible refine xc_skip ?_
    with_reducible repeat (first | refine xq_then ?_ | refine xq_blockN ?_ | refine xq_scopeN ?_)
    with_reducible repeat refine xc_seq ?_
    with_reducible refine xc_region ?_
    refine xo_mv rfl rfl rfl ?_
    refine xo_add rfl rfl rfl (by omega) rfl ?_
    refine xo_asg rfl rfl rfl ?_
    with_reducible refine xo_nil ?_
    with_reducible repeat (first | refine xq_then ?_ | refine xq_blockN ?_ | refine xq_scopeN ?_)
    exact xq_again _ _ _ _ _ (k + 1) ⟨by omega, by rw [hlex, if_pos h2]⟩ (by omega) ⟨rfl, rfl, rfl, trivial⟩ (List.Sublist.refl _)
  · have hge : ¬ k < xs.length := by have := of_decide_eq_false h; omega
    rw [List.drop_of_length_le (by omega)] at hlex
    with_reducible refine xc_exit ?_
    with_reducible repeat (first | refine xq_blockX ?_ | refine xq_thenE ?_ | refine xq_blockE rfl ?_ | refine xq_scopeE ?_)
    with_reducible repeat (first | refine xq_then ?_ | refine xq_blockN ?_ | refine xq_scopeN ?_)
    with_reducible repeat refine xc_seq ?_
    with_reducible refine xc_region ?_
    refine xo_asg rfl rfl rfl ?_
    with_reducible refine xo_nil ?_
    with_reducible repeat (first | refine xq_then ?_ | refine xq_blockN ?_ | refine xq_scopeN ?_)
    with_reducible repeat refine xc_seq ?_
    with_reducible refine xc_ret ?_
    with_reducible repeat (first | refine xq_thenR ?_ | refine xq_blockR ?_ | refine xq_scopeR ?_)
    exact xq_ret1 rfl rfl fun w' hw => ⟨by rw [aheadF, if_pos h1, hlex]; rfl, hw.kx.below⟩
theorem ahead_enters : ∀ args w, (callFunc 40 args).run Try.prog w = .ok (.enter 40 args) w := enters_of Try.func40 (by kernel_rfl) rfl
/-- a row of truths of the call's own, as it is read -/
theorem C_orowB {w : World} {b cap : Nat} {xs : List Bool} {t : TypeId} {o : Obj} (h1 : w.heap[b]? = some o) (h2 : orow t 1 xs.length cap (xs.map .bool) o) (hm : xs.length ≤ 9223372036854775807) : Kd.C Kd.bool w (some ⟨b, 0, none⟩) xs.length xs := by
  refine C_row (d := Kd.bool) (cells := (xs.map Value.bool).map fun v => [v]) h1 (e := t) (cap := cap) ?_ (by simp) (by intro c hc; obtain ⟨v, _, rfl⟩ := List.mem_map.1 hc; rfl) ?_ hm
  · rw [flat_ones, List.length_map, List.length_map]
    exact h2
  · intro j x c hx hc
    rw [List.getElem?_map, List.getElem?_map, hx] at hc
    simp at hc
    subst hc
    rfl
theorem C_memB {w0 w : World} {X : Nat → Prop} {η : Hp} (hw : WOK w0 X η w) {b cap k : Nat} {r : List RecT} {t : TypeId} (hs : SortedIds r) (hm : (b, true, orow t 1 r.length cap ((memB r.length k).map .bool)) ∈ η) (hl : r.length ≤ 1000000) : Kd.C Kd.bool w (some ⟨b, 0, none⟩) r.length (inB r (selM r k)) := by
  obtain ⟨o, h1, h2⟩ := hw.bl _ hm
  have := C_orowB (xs := memB r.length k) h1 (by rw [memB_len]; exact h2) (by rw [memB_len]; omega)
  rwa [memB_len, memB_in hs] at this
theorem aheadRows {w0 w : World} {X : Nat → Prop} {η : Hp} (hw : WOK w0 X η w) {rr rr2 : RowR} {xs ys : List Int} (hl : xs.length ≤ 1000000) (hl2 : ys.length ≤ 1000000) (h1 : RowAt 3 0 w rr xs) (h2 : RowAt 3 0 w rr2 ys) :
    Calls Try.prog 40 ([] ++ [valR rr xs.length, valR rr2 ys.length] ++ []).toArray w fun e w' => e = .returned (.bool (aheadF xs ys)) ∧ Below w.heap.size w w' := by
  obtain ⟨A, c, e1, _, hA⟩ := h1.C (by omega)
  obtain ⟨B, c2, e2, _, hB⟩ := h2.C (by omega)
  rw [e1, e2]
  exact ahead_calls A B c c2 xs ys w hA hB
section
variable {P : Program} {ro : Option Nat} {n N : Nat} {ds : List Deferred} {w0 : World} {X : Nat → Prop} {Q : Exit → Act → World → Prop} {σ : Slots} {η : Hp} {ops rest : List Oper} {d : Option Tmp} {ty t t' : TypeId} {pos : String} {aft : Array Edge} {g : Option (Nat × Bool)}
theorem xo_lenR (T : Tys P) {x : Operand} {t e : TypeId} {r : RowR} {m : Nat} (hg : gS ops σ g = some true) (hx : ev σ x = some (valR r m)) (h0 : r = none → m = 0) (ht : look t T.el = some e) (hN : dstOK N d = true) (h : XO P ro n N ds w0 X Q ops (putS d (.int .i64 (m : Int)) σ) η rest) :
    XO P ro n N ds w0 X Q ops σ η (⟨d, .call { callee := .builtin .len, args := #[x], argTypes := #[t] }, ty, pos, aft, g⟩ :: rest) := by
  rcases r with _ | p
  · have := h0 rfl
    subst this
    exact xo_len T hg hx ht hN h
  · exact xo_len T hg hx ht hN h
end
theorem mem_load {n k i : Nat} {q : Bool} (hi : i < n) (hq : bitB k i = q) : ((memB n k).map Value.bool)[i]? = some (.bool q) := by
  simp [memB, hi, hq]
def okI (r : List RecT) (H : List Int) (at_ k i : Nat) : Bool := bitB k at_ && (List.range i).all fun j => !bitB k j || decide (idAt r j ∈ H)
theorem okI_succ (r : List RecT) (H : List Int) (at_ k i : Nat) : okI r H at_ k (i + 1) = (okI r H at_ k i && (!bitB k i || decide (idAt r i ∈ H))) := by
  simp only [okI, List.range_succ, List.all_append, List.all_cons, List.all_nil, Bool.and_true, Bool.and_assoc]
/-- one mask of the search -/
def restsStep (r : List RecT) (H : List Int) (at_ : Nat) (best : List Int) (k : Nat) : List Int :=
  if okI r H at_ k r.length && carriesF r (selM r k) && (decide ((best.length : Int) = 0) || aheadF (idsF r fun n => decide (n ∈ selM r k)) best) then idsF r fun n => decide (n ∈ selM r k) else best
def restsBest (r : List RecT) (H : List Int) (at_ m : Nat) : List Int := (List.range m).foldl (restsStep r H at_) []
theorem restsBest_succ (r : List RecT) (H : List Int) (at_ m : Nat) : restsBest r H at_ (m + 1) = restsStep r H at_ (restsBest r H at_ m) m := by simp [restsBest, List.range_succ]
theorem restsBest_len (r : List RecT) (H : List Int) (at_ : Nat) : ∀ m, (restsBest r H at_ m).length ≤ r.length
  | 0 => by simp [restsBest]
  | m + 1 => by
    rw [restsBest_succ, restsStep]
    split
    · exact idsF_len r _
    · exact restsBest_len r H at_ m
end Go.Proofs.Ytcmepdamemnbkaa
namespace Go.Proofs.Ytcmepdamemnbkaa
open Go.RowKit Go.Proofs.YtcmepdamemnbkaaW.PrintWords
set_option linter.unusedVariables false
set_option linter.unusedSimpArgs false
theorem isNaN_calls (x : Int) (w : World) : Calls Try.prog 66 #[.int .i64 x] w fun e w' => e = .returned (.bool false) ∧ Below w.heap.size w w' := by
  refine x_calls (X := XNone) Try.func66 rfl rfl rfl ?_
  with_reducible repeat refine xc_seq ?_
  with_reducible refine xc_region ?_
  refine xo_asg rfl rfl rfl ?_
  with_reducible refine xo_nil ?_
  with_reducible repeat (first | refine xq_then ?_ | refine xq_blockN ?_ | refine xq_scopeN ?_)
  with_reducible repeat refine xc_seq ?_
  with_reducible refine xc_region ?_
  refine xo_mv rfl rfl rfl ?_
  refine xo_mv rfl rfl rfl ?_
  refine xo_neq rfl rfl rfl rfl ?_
  refine xo_as (i := 5) rfl (congrArg Value.bool (ne_ff x)) ?_
  refine xo_asg rfl rfl rfl ?_
  with_reducible refine xo_nil ?_
  with_reducible repeat (first | refine xq_then ?_ | refine xq_blockN ?_ | refine xq_scopeN ?_)
  with_reducible repeat refine xc_seq ?_
  with_reducible refine xc_ret ?_
  with_reducible repeat (first | refine xq_thenR ?_ | refine xq_blockR ?_ | refine xq_scopeR ?_)
  exact xq_ret1 rfl rfl fun w' hw => ⟨rfl, hw.kx.below⟩
def cmpI (x y : Int) : Int := if x < y then -1 else if y < x then 1 else 0
theorem cmp_calls (x y : Int) (w : World) : Calls Try.prog 63 #[.int .i64 x, .int .i64 y] w fun e w' => e = .returned (.int .i64 (cmpI x y)) ∧ Below w.heap.size w w' := by
  have eg := enters_of Try.func66 (by kernel_rfl) rfl
  refine x_calls (X := XNone) Try.func63 rfl rfl rfl ?_
  with_reducible repeat refine xc_seq ?_
  with_reducible refine xc_region ?_
  refine xo_asg rfl rfl rfl ?_
  with_reducible refine xo_nil ?_
  with_reducible repeat (first | refine xq_then ?_ | refine xq_blockN ?_ | refine xq_scopeN ?_)
  with_reducible repeat refine xc_seq ?_
  with_reducible refine xc_region ?_
  refine xo_mv rfl rfl rfl ?_
  refine xo_callB (fs := []) (cs := []) rfl rfl rfl eg rfl (fun w1 hw1 => isNaN_calls x w1) ?_
  refine xo_asg rfl rfl rfl ?_
  with_reducible refine xo_nil ?_
  with_reducible repeat (first | refine xq_then ?_ | refine xq_blockN ?_ | refine xq_scopeN ?_)
  with_reducible repeat refine xc_seq ?_
  with_reducible refine xc_region ?_
  refine xo_mv rfl rfl rfl ?_
  refine xo_callB (fs := []) (cs := []) rfl rfl rfl eg rfl (fun w1 hw1 => isNaN_calls y w1) ?_
  refine xo_asg rfl rfl rfl ?_
  with_reducible refine xo_nil ?_
  with_reducible repeat (first | refine xq_then ?_ | refine xq_blockN ?_ | refine xq_scopeN ?_)
  with_reducible repeat refine xc_seq ?_
  with_reducible refine xc_region ?_
  refine xo_mv rfl rfl rfl ?_
  with_reducible refine xo_nil ?_
  with_reducible repeat (first | refine xq_then ?_ | refine xq_blockN ?_ | refine xq_scopeN ?_)
  with_reducible repeat refine xc_seq ?_
  refine xc_condF rfl ?_
  with_reducible refine xc_skip ?_
  with_reducible repeat (first | refine xq_then ?_ | refine xq_blockN ?_ | refine xq_scopeN ?_)
  with_reducible repeat refine xc_seq ?_
  with_reducible refine xc_region ?_
  refine xo_mv rfl rfl rfl ?_
  with_reducible refine xo_nil ?_
  with_reducible repeat (first | refine xq_then ?_ | refine xq_blockN ?_ | refine xq_scopeN ?_)
  with_reducible repeat refine xc_seq ?_
  refine xc_condF rfl ?_
  with_reducible refine xc_skip ?_
  with_reducible repeat (first | refine xq_then ?_ | refine xq_blockN ?_ | refine xq_scopeN ?_)
  with_reducible repeat refine xc_seq ?_
  with_reducible refine xc_region ?_
  refine xo_mv rfl rfl rfl ?_
  refine xo_mv rfl rfl rfl ?_
  refine xo_lss rfl rfl rfl rfl ?_
  with_reducible refine xo_nil ?_
  with_reducible repeat (first | refine xq_then ?_ | refine xq_blockN ?_ | refine xq_scopeN ?_)
  with_reducible repeat refine xc_seq ?_
  refine xc_cond rfl (fun h1 => ?_) (fun h1 => ?_)
  · with_reducible repeat refine xc_seq ?_
    with_reducible refine xc_region ?_
    refine xo_asg rfl rfl rfl ?_
    with_reducible refine xo_nil ?_
    with_reducible repeat (first | refine xq_then ?_ | refine xq_blockN ?_ | refine xq_scopeN ?_)
    with_reducible repeat refine xc_seq ?_
    with_reducible refine xc_ret ?_
    with_reducible repeat (first | refine xq_thenR ?_ | refine xq_blockR ?_ | refine xq_scopeR ?_)
    exact xq_ret1 rfl rfl fun w' hw => ⟨by rw [cmpI, if_pos (of_decide_eq_true h1)], hw.kx.below⟩
  with_reducible refine xc_skip ?_
  with_reducible repeat (first | refine xq_then ?_ | refine xq_blockN ?_ | refine xq_scopeN ?_)
  with_reducible repeat refine xc_seq ?_
  with_reducible refine xc_region ?_
  refine xo_mv rfl rfl rfl ?_
  refine xo_mv rfl rfl rfl ?_
  refine xo_gtr rfl rfl rfl rfl ?_
  with_reducible refine xo_nil ?_
  with_reducible repeat (first | refine xq_then ?_ | refine xq_blockN ?_ | refine xq_scopeN ?_)
  with_reducible repeat refine xc_seq ?_
  refine xc_cond rfl (fun h2 => ?_) (fun h2 => ?_)
  · with_reducible repeat refine xc_seq ?_
    with_reducible refine xc_region ?_
    refine xo_asg rfl rfl rfl ?_
    with_reducible refine xo_nil ?_
    with_reducible repeat (first | refine xq_then ?_ | refine xq_blockN ?_ | refine xq_scopeN ?_)
    with_reducible repeat refine xc_seq ?_
    with_reducible refine xc_ret ?_
    with_reducible repeat (first | refine xq_thenR ?_ | refine xq_blockR ?_ | refine xq_scopeR ?_)
    exact xq_ret1 rfl rfl fun w' hw => ⟨by rw [cmpI, if_neg (of_decide_eq_false h1), if_pos (of_decide_eq_true h2)], hw.kx.below⟩
  with_reducible refine xc_skip ?_
  with_reducible repeat (first | refine xq_then ?_ | refine xq_blockN ?_ | refine xq_scopeN ?_)
  with_reducible repeat refine xc_seq ?_
  with_reducible refine xc_region ?_
  refine xo_asg rfl rfl rfl ?_
  with_reducible refine xo_nil ?_
  with_reducible repeat (first | refine xq_then ?_ | refine xq_blockN ?_ | refine xq_scopeN ?_)
  with_reducible repeat refine xc_seq ?_
  with_reducible refine xc_ret ?_
  with_reducible repeat (first | refine xq_thenR ?_ | refine xq_blockR ?_ | refine xq_scopeR ?_)
  exact xq_ret1 rfl rfl fun w' hw => ⟨by rw [cmpI, if_neg (of_decide_eq_false h1), if_neg (of_decide_eq_false h2)], hw.kx.below⟩
def cmpF : List Int → List Int → Int
  | x :: a, y :: b => if cmpI x y = 0 then cmpF a b else cmpI x y
  | _, _ => 0
theorem cmpF_lex : ∀ a b : List Int, decide (0 ≤ cmpF a b) = !lexF a b
  | [], _ => by simp [cmpF, lexF]
  | _ :: _, [] => by simp [cmpF, lexF]
  | x :: a, y :: b => by
    rw [cmpF, lexF, cmpI]
    by_cases h1 : x < y
    · rw [if_pos h1, if_neg (by decide), if_neg (by omega), decide_eq_true h1]; rfl
    · by_cases h2 : y < x
      · rw [if_neg h1, if_pos h2, if_neg (by decide), if_neg (by omega), decide_eq_false h1]; rfl
      · rw [if_neg h1, if_neg h2, if_pos rfl, if_pos (by omega)]
        exact cmpF_lex a b
theorem compare_enters : ∀ args w, (callFunc 55 args).run Try.prog w = .ok (.enter 55 args) w := enters_of Try.func55 (by kernel_rfl) rfl
theorem compare_calls (A B : Option Addr) (c c' : Nat) (xs ys : List Int) (w : World) (hr : Kd.C (Kd.int .i64) w A xs.length xs) (hl : Kd.C (Kd.int .i64) w B ys.length ys) (he : xs.length = ys.length) :
    Calls Try.prog 55 #[.slice A xs.length c, .slice B ys.length c'] w fun e w' => e = .returned (.int .i64 (cmpF xs ys)) ∧ Below w.heap.size w w' := by
  have hn := hr.2.1
  have eg := enters_of Try.func63 (by kernel_rfl) rfl
  refine x_calls (X := XNone) Try.func55 rfl rfl rfl ?_
  with_reducible repeat refine xc_seq ?_
  with_reducible refine xc_region ?_
  refine xo_asg rfl rfl rfl ?_
  with_reducible refine xo_nil ?_
  with_reducible repeat (first | refine xq_then ?_ | refine xq_blockN ?_ | refine xq_scopeN ?_)
  with_reducible repeat refine xc_seq ?_
  with_reducible refine xc_region ?_
  refine xo_mv rfl rfl rfl ?_
  refine xo_len T_ rfl rfl rfl rfl ?_
  refine xo_mv rfl rfl rfl ?_
  with_reducible refine xo_nil ?_
  with_reducible repeat (first | refine xq_then ?_ | refine xq_blockN ?_ | refine xq_scopeN ?_)
  with_reducible repeat refine xc_seq ?_
  with_reducible refine xc_block ?_
  refine xc_loop (γ := Nat) (fun k => k ≤ xs.length ∧ cmpF xs ys = cmpF (xs.drop k) (ys.drop k)) (fun k => [(0, .slice A xs.length c), (1, .slice B ys.length c'), (9, .slice A xs.length c), (10, .int .i64 (xs.length : Int)), (11, .int .i64 (k : Int))]) (fun _ => []) (fun k => xs.length - k) 0
    ⟨Nat.zero_le _, rfl⟩ ⟨rfl, rfl, rfl, rfl, rfl, trivial⟩ (List.Sublist.refl _) ?_
  rintro k ⟨hk, hlex⟩
  with_reducible repeat refine xc_seq ?_
  with_reducible refine xc_region ?_
  refine xo_lss rfl rfl rfl rfl ?_
  with_reducible refine xo_nil ?_
  with_reducible repeat (first | refine xq_then ?_ | refine xq_blockN ?_ | refine xq_scopeN ?_)
  with_reducible repeat refine xc_seq ?_
  refine xc_cond rfl (fun h => ?_) (fun h => ?_)
  · have hlt : k < xs.length := by have := of_decide_eq_true h; omega
    obtain ⟨ad, rfl, r1⟩ := int_at hr k hlt
    obtain ⟨bd, rfl, r2⟩ := int_at hl k (by omega)
    rw [drop_at xs 0 k hlt, drop_at ys 0 k (by omega), cmpF] at hlex
    have h19 : decide ((ys.length : Int) ≤ (k : Int)) = false := decide_eq_false (by omega)
    with_reducible refine xc_skip ?_
    with_reducible repeat (first | refine xq_then ?_ | refine xq_blockN ?_ | refine xq_scopeN ?_)
    with_reducible repeat refine xc_seq ?_
    with_reducible refine xc_block ?_
    with_reducible repeat refine xc_seq ?_
    with_reducible refine xc_region ?_
    refine xo_mv rfl rfl rfl ?_
    refine xo_ia T_ rfl rfl rfl rfl rfl ⟨by omega, by omega⟩ rfl ?_
    refine xo_loadR0 T_ rfl rfl rfl (by first | assumption | exact RO.fld (by assumption) rfl) rfl ?_
    refine xo_asg rfl rfl rfl ?_
    refine xo_asg rfl rfl rfl ?_
    with_reducible refine xo_nil ?_
    with_reducible repeat (first | refine xq_then ?_ | refine xq_blockN ?_ | refine xq_scopeN ?_)
    with_reducible repeat refine xc_seq ?_
    with_reducible refine xc_region ?_
    refine xo_mv rfl rfl rfl ?_
    refine xo_mv rfl rfl rfl ?_
    refine xo_len T_ rfl rfl rfl rfl ?_
    refine xo_geq rfl rfl rfl rfl ?_
    refine xo_as (i := 19) rfl (congrArg Value.bool h19) ?_
    with_reducible refine xo_nil ?_
    with_reducible repeat (first | refine xq_then ?_ | refine xq_blockN ?_ | refine xq_scopeN ?_)
    with_reducible repeat refine xc_seq ?_
    refine xc_condF rfl ?_
    with_reducible refine xc_skip ?_
    with_reducible repeat (first | refine xq_then ?_ | refine xq_blockN ?_ | refine xq_scopeN ?_)
    with_reducible repeat refine xc_seq ?_
    with_reducible refine xc_region ?_
    refine xo_mv rfl rfl rfl ?_
    refine xo_mv rfl rfl rfl ?_
    refine xo_ia T_ rfl rfl rfl rfl rfl ⟨by omega, by omega⟩ rfl ?_
    refine xo_loadR0 T_ rfl rfl rfl (by first | assumption | exact RO.fld (by assumption) rfl) rfl ?_
    refine xo_asg rfl rfl rfl ?_
    with_reducible refine xo_nil ?_
    with_reducible repeat (first | refine xq_then ?_ | refine xq_blockN ?_ | refine xq_scopeN ?_)
    with_reducible repeat refine xc_seq ?_
    with_reducible refine xc_region ?_
    refine xo_mv rfl rfl rfl ?_
    refine xo_mv rfl rfl rfl ?_
    refine xo_callB (fs := []) (cs := []) rfl rfl rfl eg rfl (fun w1 hw1 => cmp_calls _ _ w1) ?_
    refine xo_asg rfl rfl rfl ?_
    with_reducible refine xo_nil ?_
    with_reducible repeat (first | refine xq_then ?_ | refine xq_blockN ?_ | refine xq_scopeN ?_)
    with_reducible repeat refine xc_seq ?_
    with_reducible refine xc_region ?_
    refine xo_mv rfl rfl rfl ?_
    refine xo_neq rfl rfl rfl rfl ?_
    with_reducible refine xo_nil ?_
    with_reducible repeat (first | refine xq_then ?_ | refine xq_blockN ?_ | refine xq_scopeN ?_)
    with_reducible repeat refine xc_seq ?_
    refine xc_cond rfl (fun h2 => ?_) (fun h2 => ?_)
    · have h2 : cmpI (xs.getD k 0) (ys.getD k 0) ≠ 0 := by simpa using h2
      with_reducible repeat refine xc_seq ?_
      with_reducible refine xc_region ?_
      refine xo_mv rfl rfl rfl ?_
      refine xo_asg rfl rfl rfl ?_
      with_reducible refine xo_nil ?_
      with_reducible repeat (first | refine xq_then ?_ | refine xq_blockN ?_ | refine xq_scopeN ?_)
      with_reducible repeat refine xc_seq ?_
      with_reducible refine xc_ret ?_
      with_reducible repeat (first | refine xq_thenR ?_ | refine xq_blockR ?_ | refine xq_scopeR ?_)
      exact xq_ret1 rfl rfl fun w' hw => ⟨by rw [hlex, if_neg h2], hw.kx.below⟩
    have h2 : cmpI (xs.getD k 0) (ys.getD k 0) = 0 := by simpa using h2
    with_reducible refine xc_skip ?_
    with_reducible repeat (first | refine xq_then ?_ | refine xq_blockN ?_ | refine xq_scopeN ?_)
    with_reducible repeat refine xc_seq ?_
    with_reducible refine xc_region ?_
    refine xo_add rfl rfl rfl (by omega) rfl ?_
    refine xo_mv rfl rfl rfl ?_
    with_reducible refine xo_nil ?_
    with_reducible repeat (first | refine xq_then ?_ | refine xq_blockN ?_ | refine xq_scopeN ?_)
    exact xq_again _ _ _ _ _ (k + 1) ⟨by omega, by rw [hlex, if_pos h2]⟩ (by omega) ⟨rfl, rfl, rfl, rfl, rfl, trivial⟩ (List.Sublist.refl _)
  · have hge : ¬ k < xs.length := by have := of_decide_eq_false h; omega
    rw [List.drop_of_length_le (by omega)] at hlex
    have h35 : decide ((xs.length : Int) < (ys.length : Int)) = false := decide_eq_false (by omega)
    with_reducible refine xc_exit ?_
    with_reducible repeat (first | refine xq_blockX ?_ | refine xq_thenE ?_ | refine xq_blockE rfl ?_ | refine xq_scopeE ?_)
    with_reducible repeat (first | refine xq_then ?_ | refine xq_blockN ?_ | refine xq_scopeN ?_)
    with_reducible repeat refine xc_seq ?_
    with_reducible refine xc_region ?_
    refine xo_mv rfl rfl rfl ?_
    refine xo_len T_ rfl rfl rfl rfl ?_
    refine xo_mv rfl rfl rfl ?_
    refine xo_len T_ rfl rfl rfl rfl ?_
    refine xo_lss rfl rfl rfl rfl ?_
    refine xo_as (i := 35) rfl (congrArg Value.bool h35) ?_
    with_reducible refine xo_nil ?_
    with_reducible repeat (first | refine xq_then ?_ | refine xq_blockN ?_ | refine xq_scopeN ?_)
    with_reducible repeat refine xc_seq ?_
    refine xc_condF rfl ?_
    with_reducible refine xc_skip ?_
    with_reducible repeat (first | refine xq_then ?_ | refine xq_blockN ?_ | refine xq_scopeN ?_)
    with_reducible repeat refine xc_seq ?_
    with_reducible refine xc_region ?_
    refine xo_asg rfl rfl rfl ?_
    with_reducible refine xo_nil ?_
    with_reducible repeat (first | refine xq_then ?_ | refine xq_blockN ?_ | refine xq_scopeN ?_)
    with_reducible repeat refine xc_seq ?_
    with_reducible refine xc_ret ?_
    with_reducible repeat (first | refine xq_thenR ?_ | refine xq_blockR ?_ | refine xq_scopeR ?_)
    exact xq_ret1 rfl rfl fun w' hw => ⟨by rw [hlex]; rfl, hw.kx.below⟩
end Go.Proofs.Ytcmepdamemnbkaa
namespace Go.Proofs.Ytcmepdamemnbkaa
open Go.RowKit Go.MapKept
set_option linter.unusedVariables false
set_option linter.unusedSimpArgs false
theorem clone_enters : ∀ args w, (callFunc 42 args).run Try.prog w = .ok (.enter 42 args) w := enters_of Try.func42 (by kernel_rfl) rfl
set_option maxRecDepth 100000 in
set_option maxHeartbeats 2000000 in
theorem clone_calls (b : Nat) (es : Array MapEntry) (clock : Nat) (w : World) (hb : w.heap[b]? = some (.map es clock)) :
    Calls Try.prog 42 #[.map (some b)] w fun e w' => e = .returned (.map (some w.heap.size)) ∧ w' = w.alloc (.map es clock) := by
  have hq := fun w => run_eql_map_nil_sl (P := Try.prog) w 44 _ _ (some b) Try.underlying44
  go_enter Try.func42, Try.ntmps42
  go_wp2
  rw [run_callFunc_extern Try.func56 (by kernel_rfl) (by kernel_rfl) (by kernel_rfl) (e := Extern.MapsClone.clone) (by kernel_rfl), run_maps_clone_sl w 44 hb]
  simp only [Result.andThen]
  rw [Oper.upon_value]
  go_wp2
  rw [run_typeAssert_map_sl _ 44 _ _ _ _ Try.underlying44]
  simp only [Result.andThen]
  rw [Oper.upon_value]
  go_wp2
  go_ret
  exact ⟨rfl, rfl⟩
end Go.Proofs.Ytcmepdamemnbkaa
namespace Go.Proofs.Ytcmepdamemnbkaa
open Go.RowKit Go.Proofs.YtcmepdamemnbkaaW.PrintWords
set_option linter.unusedVariables false
set_option linter.unusedSimpArgs false
/-- what the reference's Rests and Causes are asked beside: the record's place -/
theorem refOpen_zero {r : List RecT} {l : List LetT} {day id : Int} (ho : openF r l day [id] = 0) : recordedF r = true ∧ knownF r id = true := by
  have hck : checkF r l = 0 := by
    unfold openF at ho
    split at ho
    · assumption
    · exact absurd ho (by assumption)
  refine ⟨check_zero hck, ?_⟩
  unfold openF at ho
  rw [if_pos hck] at ho
  split at ho
  · split at ho
    · rename_i h; simpa using h
    · cases ho
  · cases ho
def refRestsR (r : List RecT) (l : List LetT) (day id : Int) : List Int := if openF r l day [id] = 0 ∧ id ∈ holdsF r (goneF r l day) then restsBest r (holdsF r (goneF r l day)) (atF r id).toNat (2 ^ r.length) else []
def refRestsC (r : List RecT) (l : List LetT) (day id : Int) : Int := if openF r l day [id] = 0 then (if id ∈ holdsF r (goneF r l day) then 0 else 8) else openF r l day [id]
set_option maxHeartbeats 16000000 in
theorem refRests_calls (A B : Option Addr) (c c' : Nat) (r : List RecT) (l : List LetT) (day id : Int) (w : World) (hr : Kd.C recK w A r.length r) (hl : Kd.C letK w B l.length l) (hk : Bytes r) (hkl : BytesL l) :
    Calls Try.prog 17 #[.slice A r.length c, .slice B l.length c', .int .i64 day, .int .i64 id] w fun e w' => ∃ rr : RowR, e = .returned (.tuple #[valR rr (refRestsR r l day id).length, .int .i64 (refRestsC r l day id)]) ∧ RowAt 3 w.heap.size w' rr (refRestsR r l day id) ∧ Below w.heap.size w w' := by
  refine x_calls (X := XNone) Try.func17 rfl rfl rfl ?_
  with_reducible repeat refine xc_seq ?_
  with_reducible refine xc_region ?_
  refine xo_asg rfl rfl rfl ?_
  refine xo_asg rfl rfl rfl ?_
  with_reducible refine xo_nil ?_
  with_reducible repeat (first | refine xq_then ?_ | refine xq_blockN ?_ | refine xq_scopeN ?_)
  by_cases ho : openF r l day [id] = 0
  rotate_left
  · have hd : (!decide (openF r l day [id] = 0)) = true := by simp [ho]
    have e1 : refRestsR r l day id = [] := by rw [refRestsR, if_neg (fun h => ho h.1)]
    have e2 : refRestsC r l day id = openF r l day [id] := by rw [refRestsC, if_neg ho]
    with_reducible repeat refine xc_seq ?_
    with_reducible refine xc_region ?_
    refine xo_mv rfl rfl rfl ?_
    refine xo_mv rfl rfl rfl ?_
    refine xo_mv rfl rfl rfl ?_
    refine xo_mv rfl rfl rfl ?_
    refine xo_call (fs := []) (cs := []) rfl rfl rfl refOpen_enters rfl (fun w1 hw1 => (refOpen_calls A B c c' r l day id w1 (Kd.C_below hr hw1.kx.below) (Kd.C_below hl hw1.kx.below) hk hkl).mono ?_)
    rintro e w2 ⟨a, v1, v2, rfl, hb, _⟩
    refine ⟨_, _, rfl, hw1.below hb, ?_⟩
    refine xo_mv rfl rfl rfl ?_
    refine xo_ext rfl rfl rfl rfl ?_
    refine xo_ext rfl rfl rfl rfl ?_
    refine xo_ext rfl rfl rfl rfl ?_
    refine xo_ext rfl rfl rfl rfl ?_
    refine xo_asg rfl rfl rfl ?_
    refine xo_asg rfl rfl rfl ?_
    refine xo_asg rfl rfl rfl ?_
    refine xo_asg rfl rfl rfl ?_
    with_reducible refine xo_nil ?_
    with_reducible repeat (first | refine xq_then ?_ | refine xq_blockN ?_ | refine xq_scopeN ?_)
    with_reducible repeat refine xc_seq ?_
    with_reducible refine xc_region ?_
    refine xo_mv rfl rfl rfl ?_
    refine xo_neq rfl rfl rfl rfl ?_
    refine xo_as (i := 31) rfl (congrArg Value.bool hd) ?_
    with_reducible refine xo_nil ?_
    with_reducible repeat (first | refine xq_then ?_ | refine xq_blockN ?_ | refine xq_scopeN ?_)
    with_reducible repeat refine xc_seq ?_
    refine xc_condT rfl ?_
    with_reducible repeat refine xc_seq ?_
    with_reducible refine xc_region ?_
    refine xo_mv rfl rfl rfl ?_
    refine xo_asg rfl rfl rfl ?_
    refine xo_asg rfl rfl rfl ?_
    with_reducible refine xo_nil ?_
    with_reducible repeat (first | refine xq_then ?_ | refine xq_blockN ?_ | refine xq_scopeN ?_)
    with_reducible repeat refine xc_seq ?_
    with_reducible refine xc_ret ?_
    with_reducible repeat (first | refine xq_thenR ?_ | refine xq_blockR ?_ | refine xq_scopeR ?_)
    refine xq_ret2 rfl rfl rfl fun w' hw => ⟨none, by rw [e1, e2]; rfl, ?_, hw.kx.below⟩
    rw [e1]
    exact ⟨fun _ => rfl, fun p hp => by cases hp⟩
  have hd : (!decide (openF r l day [id] = 0)) = false := by simp [ho]
  obtain ⟨hok, hkn⟩ := refOpen_zero ho
  have hlen := recorded_len hok
  have hsrt := sorted_of hok
  with_reducible repeat refine xc_seq ?_
  with_reducible refine xc_region ?_
  refine xo_mv rfl rfl rfl ?_
  refine xo_mv rfl rfl rfl ?_
  refine xo_mv rfl rfl rfl ?_
  refine xo_mv rfl rfl rfl ?_
  refine xo_call (fs := []) (cs := []) rfl rfl rfl refOpen_enters rfl (fun w1 hw1 => (refOpen_calls A B c c' r l day id w1 (Kd.C_below hr hw1.kx.below) (Kd.C_below hl hw1.kx.below) hk hkl).mono ?_)
  rintro e w2 ⟨a, v1, v2, rfl, hb, h0⟩
  obtain ⟨k, bg, bh, og, oh, rfl, rfl, rfl, hk1, hk2, _, hg1, hh1, hne, h1, h2, h3, h4⟩ := h0 ho
  refine ⟨_, _, rfl, hw1.more2 (φ := cel ((inB r (goneF r l day)).map .bool) 4) (φ2 := cel ((inB r (holdsF r (goneF r l day))).map .bool) 4) hb hg1 hh1 hne h1 h3 h2 h4, ?_⟩
  clear hb hg1 hh1 hne h1 h2 h3 h4 h0
  refine xo_mv rfl rfl rfl ?_
  refine xo_ext rfl rfl rfl rfl ?_
  refine xo_ext rfl rfl rfl rfl ?_
  refine xo_ext rfl rfl rfl rfl ?_
  refine xo_ext rfl rfl rfl rfl ?_
  refine xo_asg rfl rfl rfl ?_
  refine xo_asg rfl rfl rfl ?_
  refine xo_asg rfl rfl rfl ?_
  refine xo_asg rfl rfl rfl ?_
  with_reducible refine xo_nil ?_
  with_reducible repeat (first | refine xq_then ?_ | refine xq_blockN ?_ | refine xq_scopeN ?_)
  with_reducible repeat refine xc_seq ?_
  with_reducible refine xc_region ?_
  refine xo_mv rfl rfl rfl ?_
  refine xo_neq rfl rfl rfl rfl ?_
  refine xo_as (i := 31) rfl (congrArg Value.bool hd) ?_
  with_reducible refine xo_nil ?_
  with_reducible repeat (first | refine xq_then ?_ | refine xq_blockN ?_ | refine xq_scopeN ?_)
  with_reducible repeat refine xc_seq ?_
  refine xc_condF rfl ?_
  have hatk : (atF r id).toNat = k := by
    obtain ⟨a, h1, h2, h3⟩ := atF_known hkn
    rw [h2]
    exact sorted_inj hsrt h1 hk1 (h3.trans hk2.symm)
  with_reducible refine xc_skip ?_
  with_reducible repeat (first | refine xq_then ?_ | refine xq_blockN ?_ | refine xq_scopeN ?_)
  with_reducible repeat refine xc_seq ?_
  with_reducible refine xc_region ?_
  refine xo_mv rfl rfl rfl ?_
  refine xo_mv rfl rfl rfl ?_
  refine xo_ia T_ rfl rfl rfl rfl rfl ⟨by omega, by omega⟩ rfl ?_
  refine xo_loadI T_ rfl rfl rfl (by repeat (first | exact List.Mem.head _ | apply List.Mem.tail | apply List.mem_append_right)) (in_load hk1) rfl ?_
  refine xo_notOp rfl rfl rfl ?_
  with_reducible refine xo_nil ?_
  with_reducible repeat (first | refine xq_then ?_ | refine xq_blockN ?_ | refine xq_scopeN ?_)
  rw [hk2]
  with_reducible repeat refine xc_seq ?_
  refine xc_cond rfl (fun hh => ?_) (fun hh => ?_)
  · have hh : id ∉ holdsF r (goneF r l day) := by simpa using hh
    have e1 : refRestsR r l day id = [] := by rw [refRestsR, if_neg (fun h => hh h.2)]
    have e2 : refRestsC r l day id = 8 := by rw [refRestsC, if_pos ho, if_neg hh]
    with_reducible repeat refine xc_seq ?_
    with_reducible refine xc_region ?_
    refine xo_asg rfl rfl rfl ?_
    refine xo_asg rfl rfl rfl ?_
    with_reducible refine xo_nil ?_
    with_reducible repeat (first | refine xq_then ?_ | refine xq_blockN ?_ | refine xq_scopeN ?_)
    with_reducible repeat refine xc_seq ?_
    with_reducible refine xc_ret ?_
    with_reducible repeat (first | refine xq_thenR ?_ | refine xq_blockR ?_ | refine xq_scopeR ?_)
    refine xq_ret2 rfl rfl rfl fun w' hw => ⟨none, by rw [e1, e2]; rfl, ?_, hw.kx.below⟩
    rw [e1]
    exact ⟨fun _ => rfl, fun p hp => by cases hp⟩
  have hh : id ∈ holdsF r (goneF r l day) := by simpa using hh
  have e1 : refRestsR r l day id = restsBest r (holdsF r (goneF r l day)) k (2 ^ r.length) := by rw [refRestsR, if_pos ⟨ho, hh⟩, hatk]
  have e2 : refRestsC r l day id = 0 := by rw [refRestsC, if_pos ho, if_pos hh]
  have h2n : 2 ^ r.length ≤ 4096 := Nat.le_trans (Nat.pow_le_pow_right (by omega) hlen) (by decide)
  rw [e1, e2]
  clear e1 e2
  generalize holdsF r (goneF r l day) = H at *
  with_reducible refine xc_skip ?_
  with_reducible repeat (first | refine xq_then ?_ | refine xq_blockN ?_ | refine xq_scopeN ?_)
  with_reducible repeat refine xc_seq ?_
  with_reducible refine xc_region ?_
  refine xo_asg rfl rfl rfl ?_
  with_reducible refine xo_nil ?_
  with_reducible repeat (first | refine xq_then ?_ | refine xq_blockN ?_ | refine xq_scopeN ?_)
  with_reducible repeat refine xc_seq ?_
  with_reducible refine xc_region ?_
  refine xo_asg rfl rfl rfl ?_
  with_reducible refine xo_nil ?_
  with_reducible repeat (first | refine xq_then ?_ | refine xq_blockN ?_ | refine xq_scopeN ?_)
  with_reducible repeat refine xc_seq ?_
  with_reducible refine xc_block ?_
  refine xc_loop (γ := Nat × RowR) (fun q => q.1 ≤ 2 ^ r.length ∧ (q.2 = none → restsBest r H k q.1 = [])) (fun q => [(0, .slice A r.length c), (10, .int .i64 (k : Int)), (12, .slice (some ⟨bh, 0, none⟩) r.length r.length), (14, valR q.2 (restsBest r H k q.1).length), (15, .int .i64 (q.1 : Int))])
    (fun q => hpR 3 1 q.2 (restsBest r H k q.1).length ((restsBest r H k q.1).map (.int .i64)) ++ [(bh, true, cel ((inB r H).map .bool) 4)]) (fun q => 2 ^ r.length - q.1) (0, none) ⟨Nat.zero_le _, fun _ => rfl⟩ ⟨rfl, rfl, rfl, rfl, rfl, trivial⟩ (by repeat (first | exact List.Sublist.refl _ | apply List.Sublist.cons_cons | apply List.Sublist.cons | exact List.nil_sublist _)) ?_
  rintro ⟨m, rr⟩ ⟨hm1, hrr⟩
  simp only at hm1 hrr ⊢
  have hbl := restsBest_len r H k m
  have hstep := restsBest_succ r H k m
  with_reducible repeat refine xc_seq ?_
  with_reducible refine xc_region ?_
  refine xo_mv rfl rfl rfl ?_
  refine xo_mv rfl rfl rfl ?_
  refine xo_len T_ rfl rfl rfl rfl ?_
  refine xo_shl1 rfl rfl rfl (by omega) rfl ?_
  refine xo_lss rfl rfl rfl rfl ?_
  with_reducible refine xo_nil ?_
  with_reducible repeat (first | refine xq_then ?_ | refine xq_blockN ?_ | refine xq_scopeN ?_)
  with_reducible repeat refine xc_seq ?_
  refine xc_cond rfl (fun h => ?_) (fun h => ?_)
  · have hlt : m < 2 ^ r.length := by have := of_decide_eq_true h; omega
    with_reducible refine xc_skip ?_
    with_reducible repeat (first | refine xq_then ?_ | refine xq_blockN ?_ | refine xq_scopeN ?_)
    with_reducible repeat refine xc_seq ?_
    with_reducible refine xc_block ?_
    with_reducible repeat refine xc_seq ?_
    with_reducible refine xc_region ?_
    refine xo_mv rfl rfl rfl ?_
    refine xo_mv rfl rfl rfl ?_
    refine xo_call (fs := []) (cs := []) rfl rfl rfl members_enters rfl (fun w1 hw1 => (members_calls A c r m w1 (by omega) (by omega)).mono ?_)
    rintro e w2 ⟨r16, rfl, hrow, hb⟩
    have h16 := hrow.1
    have hmb : ((memB r.length m).map Value.bool).length = r.length := by rw [List.length_map, memB_len]
    rcases r16 with _ | ⟨b16, c16⟩
    · have := h16 rfl
      rw [this] at hmb
      simp at hmb
      omega
    refine ⟨_, _, rfl, hw1.rowV hb hrow, ?_⟩
    rw [hmb]
    clear hrow hb hw1 h16 hmb
    refine xo_asg rfl rfl rfl ?_
    with_reducible refine xo_nil ?_
    with_reducible repeat (first | refine xq_then ?_ | refine xq_blockN ?_ | refine xq_scopeN ?_)
    with_reducible repeat refine xc_seq ?_
    with_reducible refine xc_region ?_
    refine xo_mv rfl rfl rfl ?_
    refine xo_mv rfl rfl rfl ?_
    refine xo_ia T_ rfl rfl rfl rfl rfl ⟨by omega, by omega⟩ rfl ?_
    refine xo_loadZ T_ (k := k) rfl rfl rfl (ad1 _ _) (by repeat (first | exact List.Mem.head _ | apply List.Mem.tail | apply List.mem_append_right)) (mem_load hk1 rfl) rfl ?_
    refine xo_asg rfl rfl rfl ?_
    with_reducible refine xo_nil ?_
    with_reducible repeat (first | refine xq_then ?_ | refine xq_blockN ?_ | refine xq_scopeN ?_)
    with_reducible repeat refine xc_seq ?_
    with_reducible refine xc_region ?_
    refine xo_asg rfl rfl rfl ?_
    with_reducible refine xo_nil ?_
    with_reducible repeat (first | refine xq_then ?_ | refine xq_blockN ?_ | refine xq_scopeN ?_)
    with_reducible repeat refine xc_seq ?_
    with_reducible refine xc_block ?_
    refine xc_loop (γ := Nat) (fun i => i ≤ r.length) (fun i => [(0, .slice A r.length c), (10, .int .i64 (k : Int)), (12, .slice (some ⟨bh, 0, none⟩) r.length r.length), (14, valR rr (restsBest r H k m).length), (15, .int .i64 (m : Int)), (16, .slice (some ⟨b16, 0, none⟩) r.length c16), (17, .bool (okI r H k m i)), (18, .int .i64 (i : Int))])
      (fun _ => (b16, true, orow 4 1 r.length c16 ((memB r.length m).map .bool)) :: (hpR 3 1 rr (restsBest r H k m).length ((restsBest r H k m).map (.int .i64)) ++ [(bh, true, cel ((inB r H).map .bool) 4)])) (fun i => r.length - i) 0 (Nat.zero_le _) ⟨rfl, rfl, rfl, rfl, rfl, rfl, by rw [show okI r H k m 0 = bitB m k by simp [okI]]; rfl, rfl, trivial⟩ (List.Sublist.refl _) ?_
    intro i hi
    with_reducible repeat refine xc_seq ?_
    with_reducible refine xc_region ?_
    refine xo_mv rfl rfl rfl ?_
    refine xo_mv rfl rfl rfl ?_
    refine xo_len T_ rfl rfl rfl rfl ?_
    refine xo_lss rfl rfl rfl rfl ?_
    with_reducible refine xo_nil ?_
    with_reducible repeat (first | refine xq_then ?_ | refine xq_blockN ?_ | refine xq_scopeN ?_)
    with_reducible repeat refine xc_seq ?_
    refine xc_cond rfl (fun h => ?_) (fun h => ?_)
    · have hil : i < r.length := by have := of_decide_eq_true h; omega
      have hsu := okI_succ r H k m i
      with_reducible refine xc_skip ?_
      with_reducible repeat (first | refine xq_then ?_ | refine xq_blockN ?_ | refine xq_scopeN ?_)
      with_reducible repeat refine xc_seq ?_
      with_reducible refine xc_block ?_
      cases hq : okI r H k m i
      · with_reducible repeat refine xc_seq ?_
        with_reducible refine xc_region ?_
        refine xo_mv rfl rfl rfl ?_
        refine xo_mv rfl rfl rfl ?_
        first
          | refine xo_not rfl rfl ?_
          | (refine xo_mv rfl rfl rfl ?_)
        first
          | refine xo_not rfl rfl ?_
          | (refine xo_mv rfl rfl rfl ?_)
        first
          | refine xo_not rfl rfl ?_
          | (refine xo_ia T_ rfl rfl rfl rfl rfl ⟨by omega, by omega⟩ rfl ?_)
        first
          | refine xo_not rfl rfl ?_
          | (refine xo_loadR0 T_ rfl rfl rfl (by first | assumption | exact RO.fld (by assumption) rfl) rfl ?_)
        first
          | refine xo_not rfl rfl ?_
          | (refine xo_notOp rfl rfl rfl ?_)
        first
          | refine xo_not rfl rfl ?_
          | (refine xo_mv rfl rfl rfl ?_)
        first
          | refine xo_not rfl rfl ?_
          | (refine xo_mv rfl rfl rfl ?_)
        first
          | refine xo_not rfl rfl ?_
          | (refine xo_mv rfl rfl rfl ?_)
        first
          | refine xo_not rfl rfl ?_
          | (refine xo_ia T_ rfl rfl rfl rfl rfl ⟨by omega, by omega⟩ rfl ?_)
        first
          | refine xo_not rfl rfl ?_
          | (refine xo_loadR0 T_ rfl rfl rfl (by first | assumption | exact RO.fld (by assumption) rfl) rfl ?_)
        first
          | refine xo_not rfl rfl ?_
          | (first | refine xo_pickT rfl rfl rfl rfl ?_ | refine xo_pickF rfl rfl rfl rfl ?_)
        first | refine xo_pickT rfl rfl rfl rfl ?_ | refine xo_pickF rfl rfl rfl rfl ?_
        refine xo_asg rfl rfl rfl ?_
        with_reducible refine xo_nil ?_
        with_reducible repeat (first | refine xq_then ?_ | refine xq_blockN ?_ | refine xq_scopeN ?_)
        with_reducible repeat refine xc_seq ?_
        with_reducible refine xc_region ?_
        refine xo_mv rfl rfl rfl ?_
        refine xo_add rfl rfl rfl (by omega) rfl ?_
        refine xo_asg rfl rfl rfl ?_
        with_reducible refine xo_nil ?_
        with_reducible repeat (first | refine xq_then ?_ | refine xq_blockN ?_ | refine xq_scopeN ?_)
        exact xq_again _ _ _ _ _ (i + 1) (by omega) (by omega) ⟨rfl, rfl, rfl, rfl, rfl, rfl, by rw [hsu, hq]; rfl, rfl, trivial⟩ (List.Sublist.refl _)
      · cases hb : bitB m i
        all_goals
          with_reducible repeat refine xc_seq ?_
          with_reducible refine xc_region ?_
          refine xo_mv rfl rfl rfl ?_
          refine xo_mv rfl rfl rfl ?_
          first
            | refine xo_not rfl rfl ?_
            | (refine xo_mv rfl rfl rfl ?_)
          first
            | refine xo_not rfl rfl ?_
            | (refine xo_mv rfl rfl rfl ?_)
          first
            | refine xo_not rfl rfl ?_
            | (refine xo_ia T_ rfl rfl rfl rfl rfl ⟨by omega, by omega⟩ rfl ?_)
          first
            | refine xo_not rfl rfl ?_
            | (refine xo_loadZ T_ (k := i) rfl rfl rfl (ad1 _ _) (by repeat (first | exact List.Mem.head _ | apply List.Mem.tail | apply List.mem_append_right)) (mem_load hil hb) rfl ?_)
          first
            | refine xo_not rfl rfl ?_
            | (refine xo_notOp rfl rfl rfl ?_)
          first
            | refine xo_not rfl rfl ?_
            | (refine xo_mv rfl rfl rfl ?_)
          first
            | refine xo_not rfl rfl ?_
            | (refine xo_mv rfl rfl rfl ?_)
          first
            | refine xo_not rfl rfl ?_
            | (refine xo_mv rfl rfl rfl ?_)
          first
            | refine xo_not rfl rfl ?_
            | (refine xo_ia T_ rfl rfl rfl rfl rfl ⟨by omega, by omega⟩ rfl ?_)
          first
            | refine xo_not rfl rfl ?_
            | (refine xo_loadI T_ rfl rfl rfl (by repeat (first | exact List.Mem.head _ | exact List.mem_append_left _ (List.Mem.head _) | apply List.mem_append_right | apply List.Mem.tail)) (in_load hil) rfl ?_)
          first
            | refine xo_not rfl rfl ?_
            | (first | refine xo_pickT rfl rfl rfl rfl ?_ | refine xo_pickF rfl rfl rfl rfl ?_)
          first | refine xo_pickT rfl rfl rfl rfl ?_ | refine xo_pickF rfl rfl rfl rfl ?_
          refine xo_asg rfl rfl rfl ?_
          with_reducible refine xo_nil ?_
          with_reducible repeat (first | refine xq_then ?_ | refine xq_blockN ?_ | refine xq_scopeN ?_)
          with_reducible repeat refine xc_seq ?_
          with_reducible refine xc_region ?_
          refine xo_mv rfl rfl rfl ?_
          refine xo_add rfl rfl rfl (by omega) rfl ?_
          refine xo_asg rfl rfl rfl ?_
          with_reducible refine xo_nil ?_
          with_reducible repeat (first | refine xq_then ?_ | refine xq_blockN ?_ | refine xq_scopeN ?_)
          exact xq_again _ _ _ _ _ (i + 1) (by omega) (by omega) ⟨rfl, rfl, rfl, rfl, rfl, rfl, by rw [hsu, hq, hb]; rfl, rfl, trivial⟩ (List.Sublist.refl _)
    · have hge : ¬ i < r.length := by have := of_decide_eq_false h; omega
      have hii : i = r.length := by omega
      subst hii
      with_reducible refine xc_exit ?_
      with_reducible repeat (first | refine xq_blockX ?_ | refine xq_thenE ?_ | refine xq_blockE rfl ?_ | refine xq_scopeE ?_)
      with_reducible repeat (first | refine xq_then ?_ | refine xq_blockN ?_ | refine xq_scopeN ?_)
      cases hq : okI r H k m r.length
      · have hnx : restsBest r H k (m + 1) = restsBest r H k m := by rw [hstep, restsStep, hq]; rfl
        with_reducible repeat refine xc_seq ?_
        with_reducible refine xc_region ?_
        refine xo_mv rfl rfl rfl ?_
        refine xo_notOp rfl rfl rfl ?_
        refine xo_mv rfl rfl rfl ?_
        first
          | refine xo_not rfl rfl ?_
          | (refine xo_mv rfl rfl rfl ?_)
        first
          | refine xo_not rfl rfl ?_
          | (refine xo_mv rfl rfl rfl ?_)
        first
          | refine xo_not rfl rfl ?_
          | (fail "NO RULE: Op.call -5")
        first
          | refine xo_not rfl rfl ?_
          | (refine xo_notOp rfl rfl rfl ?_)
        first | refine xo_pickT rfl rfl rfl rfl ?_ | refine xo_pickF rfl rfl rfl rfl ?_
        with_reducible refine xo_nil ?_
        with_reducible repeat (first | refine xq_then ?_ | refine xq_blockN ?_ | refine xq_scopeN ?_)
        with_reducible repeat refine xc_seq ?_
        refine xc_condT rfl ?_
        with_reducible refine xc_exit ?_
        with_reducible repeat (first | refine xq_blockX ?_ | refine xq_thenE ?_ | refine xq_blockE rfl ?_ | refine xq_scopeE ?_)
        with_reducible repeat (first | refine xq_then ?_ | refine xq_blockN ?_ | refine xq_scopeN ?_)
        with_reducible repeat refine xc_seq ?_
        with_reducible refine xc_region ?_
        refine xo_mv rfl rfl rfl ?_
        refine xo_add rfl rfl rfl (by omega) rfl ?_
        refine xo_asg rfl rfl rfl ?_
        with_reducible refine xo_nil ?_
        with_reducible repeat (first | refine xq_then ?_ | refine xq_blockN ?_ | refine xq_scopeN ?_)
        refine xq_again _ _ _ _ _ (m + 1, rr) ⟨hlt, by rw [hnx]; exact hrr⟩ (by first | omega | (simp only; omega)) ⟨rfl, rfl, rfl, by rw [hnx]; rfl, rfl, trivial⟩ ?_
        simp only [hnx]
        exact List.sublist_cons_self _ _
      · with_reducible repeat refine xc_seq ?_
        with_reducible refine xc_region ?_
        refine xo_mv rfl rfl rfl ?_
        refine xo_notOp rfl rfl rfl ?_
        refine xo_mv rfl rfl rfl ?_
        first
          | refine xo_not rfl rfl ?_
          | (refine xo_mv rfl rfl rfl ?_)
        first
          | refine xo_not rfl rfl ?_
          | (refine xo_mv rfl rfl rfl ?_)
        first
          | refine xo_not rfl rfl ?_
          | (refine xo_callB (fs := []) (cs := []) rfl rfl rfl carries_enters rfl (fun w1 hw1 => carries_calls A _ c _ r (selM r m) w1 (Kd.C_below hr hw1.kx.below) (C_memB hw1 hsrt (by repeat (first | exact List.Mem.head _ | apply List.Mem.tail | apply List.mem_append_right)) (by omega)) hok) ?_)
        first
          | refine xo_not rfl rfl ?_
          | (refine xo_notOp rfl rfl rfl ?_)
        first | refine xo_pickT rfl rfl rfl rfl ?_ | refine xo_pickF rfl rfl rfl rfl ?_
        with_reducible refine xo_nil ?_
        with_reducible repeat (first | refine xq_then ?_ | refine xq_blockN ?_ | refine xq_scopeN ?_)
        with_reducible repeat refine xc_seq ?_
        refine xc_cond rfl (fun hcar => ?_) (fun hcar => ?_)
        · simp only [Bool.not_eq_true'] at hcar
          have hnx : restsBest r H k (m + 1) = restsBest r H k m := by rw [hstep, restsStep, hcar, Bool.and_false]; rfl
          with_reducible refine xc_exit ?_
          with_reducible repeat (first | refine xq_blockX ?_ | refine xq_thenE ?_ | refine xq_blockE rfl ?_ | refine xq_scopeE ?_)
          with_reducible repeat (first | refine xq_then ?_ | refine xq_blockN ?_ | refine xq_scopeN ?_)
          with_reducible repeat refine xc_seq ?_
          with_reducible refine xc_region ?_
          refine xo_mv rfl rfl rfl ?_
          refine xo_add rfl rfl rfl (by omega) rfl ?_
          refine xo_asg rfl rfl rfl ?_
          with_reducible refine xo_nil ?_
          with_reducible repeat (first | refine xq_then ?_ | refine xq_blockN ?_ | refine xq_scopeN ?_)
          refine xq_again _ _ _ _ _ (m + 1, rr) ⟨hlt, by rw [hnx]; exact hrr⟩ (by first | omega | (simp only; omega)) ⟨rfl, rfl, rfl, by rw [hnx]; rfl, rfl, trivial⟩ ?_
          simp only [hnx]
          exact List.sublist_cons_self _ _
        simp only [Bool.not_eq_false'] at hcar
        rw [restsStep, hq, hcar, Bool.and_self, Bool.true_and] at hstep
        with_reducible refine xc_skip ?_
        with_reducible repeat (first | refine xq_then ?_ | refine xq_blockN ?_ | refine xq_scopeN ?_)
        with_reducible repeat refine xc_seq ?_
        with_reducible refine xc_region ?_
        refine xo_mv rfl rfl rfl ?_
        refine xo_mv rfl rfl rfl ?_
        refine xo_call (fs := []) (cs := []) rfl rfl rfl ids_enters rfl (fun w1 hw1 => (ids_calls A _ c _ r (fun n => decide (n ∈ selM r m)) w1 (Kd.C_below hr hw1.kx.below) (C_memB hw1 hsrt (by repeat (first | exact List.Mem.head _ | apply List.Mem.tail | apply List.mem_append_right)) (by omega)) (by omega)).mono ?_)
        rintro e w4 ⟨r19, rfl, hrow, hb⟩
        have h19 := hrow.1
        refine ⟨_, _, rfl, hw1.row hb hrow, ?_⟩
        clear hrow hb hw1
        refine xo_asg rfl rfl rfl ?_
        with_reducible refine xo_nil ?_
        with_reducible repeat (first | refine xq_then ?_ | refine xq_blockN ?_ | refine xq_scopeN ?_)
        have hil := idsF_len r (fun n => decide (n ∈ selM r m))
        generalize idsF r (fun n => decide (n ∈ selM r m)) = have_ at *
        refine xc_cut (γ := Unit) (fun _ => True) (fun _ => [(0, .slice A r.length c), (10, .int .i64 (k : Int)), (12, .slice (some ⟨bh, 0, none⟩) r.length r.length), (14, valR rr (restsBest r H k m).length), (15, .int .i64 (m : Int)), (19, valR r19 have_.length), (90, .bool (decide (((restsBest r H k m).length : Int) = 0) || aheadF have_ (restsBest r H k m)))])
          (fun _ => hpR 3 1 r19 have_.length (have_.map (.int .i64)) ++ ((b16, true, orow 4 1 r.length c16 ((memB r.length m).map .bool)) :: (hpR 3 1 rr (restsBest r H k m).length ((restsBest r H k m).map (.int .i64)) ++ [(bh, true, cel ((inB r H).map .bool) 4)]))) ?_ (fun _ _ => ?_)
        · cases hz : decide (((restsBest r H k m).length : Int) = 0)
          all_goals
            with_reducible repeat refine xc_seq ?_
            with_reducible refine xc_region ?_
            refine xo_mv rfl rfl rfl ?_
            refine xo_lenR T_ rfl rfl (fun h => by rw [hrr h]; rfl) rfl rfl ?_
            refine xo_eql rfl rfl rfl rfl ?_
            refine xo_as (i := 85) rfl (congrArg Value.bool hz) ?_
            refine xo_mv rfl rfl rfl ?_
            first
              | refine xo_not rfl rfl ?_
              | (refine xo_mv rfl rfl rfl ?_)
            first
              | refine xo_not rfl rfl ?_
              | (refine xo_mv rfl rfl rfl ?_)
            first
              | refine xo_not rfl rfl ?_
              | (refine xo_callB (fs := []) (cs := []) rfl rfl rfl ahead_enters rfl (fun w1 hw1 => aheadRows hw1 (by omega) (by omega) (hw1.rowAt h19 (fun p hp => by subst hp; exact (by repeat (first | exact List.Mem.head _ | exact List.mem_append_left _ (List.Mem.head _) | apply List.mem_append_right | apply List.Mem.tail)))) (hw1.rowAt hrr (fun p hp => by subst hp; exact (by repeat (first | exact List.Mem.head _ | exact List.mem_append_left _ (List.Mem.head _) | apply List.mem_append_right | apply List.Mem.tail))))) ?_)
            first | refine xo_pickT rfl rfl rfl rfl ?_ | refine xo_pickF rfl rfl rfl rfl ?_
            with_reducible refine xo_nil ?_
            with_reducible repeat (first | refine xq_then ?_ | refine xq_blockN ?_ | refine xq_scopeN ?_)
            exact xq_meet _ _ _ () trivial ⟨rfl, rfl, rfl, rfl, rfl, rfl, rfl, trivial⟩ (List.Sublist.refl _)
        with_reducible repeat refine xc_seq ?_
        refine xc_cond rfl (fun hb => ?_) (fun hb => ?_)
        · rw [hb, if_pos rfl] at hstep
          with_reducible repeat refine xc_seq ?_
          with_reducible refine xc_region ?_
          refine xo_mv rfl rfl rfl ?_
          refine xo_asg rfl rfl rfl ?_
          with_reducible refine xo_nil ?_
          with_reducible repeat (first | refine xq_then ?_ | refine xq_blockN ?_ | refine xq_scopeN ?_)
          with_reducible repeat refine xc_seq ?_
          with_reducible refine xc_region ?_
          refine xo_mv rfl rfl rfl ?_
          refine xo_add rfl rfl rfl (by omega) rfl ?_
          refine xo_asg rfl rfl rfl ?_
          with_reducible refine xo_nil ?_
          with_reducible repeat (first | refine xq_then ?_ | refine xq_blockN ?_ | refine xq_scopeN ?_)
          refine xq_again _ _ _ _ _ (m + 1, r19) ⟨hlt, by rw [hstep]; exact h19⟩ (by first | omega | (simp only; omega)) ⟨rfl, rfl, rfl, by rw [hstep]; rfl, rfl, trivial⟩ ?_
          simp only [hstep]
          exact List.Sublist.append (List.Sublist.refl _) (List.Sublist.cons _ (List.sublist_append_right _ _))
        · rw [hb, if_neg (by simp)] at hstep
          with_reducible refine xc_skip ?_
          with_reducible repeat (first | refine xq_then ?_ | refine xq_blockN ?_ | refine xq_scopeN ?_)
          with_reducible repeat refine xc_seq ?_
          with_reducible refine xc_region ?_
          refine xo_mv rfl rfl rfl ?_
          refine xo_add rfl rfl rfl (by omega) rfl ?_
          refine xo_asg rfl rfl rfl ?_
          with_reducible refine xo_nil ?_
          with_reducible repeat (first | refine xq_then ?_ | refine xq_blockN ?_ | refine xq_scopeN ?_)
          refine xq_again _ _ _ _ _ (m + 1, rr) ⟨hlt, by rw [hstep]; exact hrr⟩ (by first | omega | (simp only; omega)) ⟨rfl, rfl, rfl, by rw [hstep]; rfl, rfl, trivial⟩ ?_
          simp only [hstep]
          exact (List.sublist_cons_self _ _).trans (List.sublist_append_right _ _)
  · have hge : ¬ m < 2 ^ r.length := by have := of_decide_eq_false h; omega
    have hmm : m = 2 ^ r.length := by omega
    subst hmm
    with_reducible refine xc_exit ?_
    with_reducible repeat (first | refine xq_blockX ?_ | refine xq_thenE ?_ | refine xq_blockE rfl ?_ | refine xq_scopeE ?_)
    with_reducible repeat (first | refine xq_then ?_ | refine xq_blockN ?_ | refine xq_scopeN ?_)
    with_reducible repeat refine xc_seq ?_
    with_reducible refine xc_region ?_
    refine xo_mv rfl rfl rfl ?_
    refine xo_asg rfl rfl rfl ?_
    refine xo_asg rfl rfl rfl ?_
    with_reducible refine xo_nil ?_
    with_reducible repeat (first | refine xq_then ?_ | refine xq_blockN ?_ | refine xq_scopeN ?_)
    with_reducible repeat refine xc_seq ?_
    with_reducible refine xc_ret ?_
    with_reducible repeat (first | refine xq_thenR ?_ | refine xq_blockR ?_ | refine xq_scopeR ?_)
    exact xq_ret2 rfl rfl rfl fun w' hw => ⟨rr, rfl, RowAt.of hw hrr, hw.kx.below⟩
theorem refRests_enters : ∀ args w, (callFunc 17 args).run Try.prog w = .ok (.enter 17 args) w := enters_of Try.func17 (by kernel_rfl) rfl
end Go.Proofs.Ytcmepdamemnbkaa
namespace Go.Proofs.Ytcmepdamemnbkaa
open Go.RowKit Go.Proofs.YtcmepdamemnbkaaW.PrintWords
set_option linter.unusedVariables false
set_option linter.unusedSimpArgs false
def okC (r : List RecT) (G : List Int) (k i : Nat) : Bool := (List.range i).all fun j => !bitB k j || decide (idAt r j ∈ G)
theorem okC_succ (r : List RecT) (G : List Int) (k i : Nat) : okC r G k (i + 1) = (okC r G k i && (!bitB k i || decide (idAt r i ∈ G))) := by
  simp only [okC, List.range_succ, List.all_append, List.all_cons, List.all_nil, Bool.and_true]
/-- the ids of G that are not in S -/
def diffF (G S : List Int) : List Int := G.filter fun n => !decide (n ∈ S)
theorem fill_diff {r : List RecT} (hs : SortedIds r) (G : List Int) (k : Nat) : fillB (fun i => decide (idAt r i ∈ G) && !bitB k i) r.length r.length = inB r (diffF G (selM r k)) := by
  apply List.ext_getElem?
  intro i
  rw [inB_at]
  by_cases h : i < r.length
  · rw [fillB_get _ _ _ _ h, if_pos h]
    congr 1
    rw [decide_eq_true h, Bool.true_and, Bool.eq_iff_iff, decide_eq_true_eq, diffF, List.mem_filter]
    simp only [Bool.and_eq_true, decide_eq_true_eq, Bool.not_eq_true', decide_eq_false_iff_not, selM_iff hs h, Bool.not_eq_true]
  · rw [if_neg h, List.getElem?_eq_none_iff, fillB_len]
    omega
def causesStep (r : List RecT) (G : List Int) (at_ : Nat) (best : List Int) (k : Nat) : List Int :=
  if okC r G k r.length && decide (idAt r at_ ∈ holdsF r (diffF G (selM r k))) && (decide ((best.length : Int) = 0) || aheadF (idsF r fun n => decide (n ∈ selM r k)) best) then idsF r fun n => decide (n ∈ selM r k) else best
def causesBest (r : List RecT) (G : List Int) (at_ m : Nat) : List Int := (List.range m).foldl (causesStep r G at_) []
theorem causesBest_succ (r : List RecT) (G : List Int) (at_ m : Nat) : causesBest r G at_ (m + 1) = causesStep r G at_ (causesBest r G at_ m) m := by simp [causesBest, List.range_succ]
theorem causesBest_len (r : List RecT) (G : List Int) (at_ : Nat) : ∀ m, (causesBest r G at_ m).length ≤ r.length
  | 0 => by simp [causesBest]
  | m + 1 => by
    rw [causesBest_succ, causesStep]
    split
    · exact idsF_len r _
    · exact causesBest_len r G at_ m
def refCausesR (r : List RecT) (l : List LetT) (day id : Int) : List Int := if openF r l day [id] = 0 ∧ id ∉ holdsF r (goneF r l day) then causesBest r (goneF r l day) (atF r id).toNat (2 ^ r.length) else []
def refCausesC (r : List RecT) (l : List LetT) (day id : Int) : Int := if openF r l day [id] = 0 then (if id ∈ holdsF r (goneF r l day) then 8 else 0) else openF r l day [id]
set_option maxHeartbeats 16000000 in
theorem refCauses_calls (A B : Option Addr) (c c' : Nat) (r : List RecT) (l : List LetT) (day id : Int) (w : World) (hr : Kd.C recK w A r.length r) (hl : Kd.C letK w B l.length l) (hk : Bytes r) (hkl : BytesL l) :
    Calls Try.prog 19 #[.slice A r.length c, .slice B l.length c', .int .i64 day, .int .i64 id] w fun e w' => ∃ rr : RowR, e = .returned (.tuple #[valR rr (refCausesR r l day id).length, .int .i64 (refCausesC r l day id)]) ∧ RowAt 3 w.heap.size w' rr (refCausesR r l day id) ∧ Below w.heap.size w w' := by
  refine x_calls (X := XNone) Try.func19 rfl rfl rfl ?_
  with_reducible repeat refine xc_seq ?_
  with_reducible refine xc_region ?_
  refine xo_asg rfl rfl rfl ?_
  refine xo_asg rfl rfl rfl ?_
  with_reducible refine xo_nil ?_
  with_reducible repeat (first | refine xq_then ?_ | refine xq_blockN ?_ | refine xq_scopeN ?_)
  by_cases ho : openF r l day [id] = 0
  rotate_left
  · have hd : (!decide (openF r l day [id] = 0)) = true := by simp [ho]
    have e1 : refCausesR r l day id = [] := by rw [refCausesR, if_neg (fun h => ho h.1)]
    have e2 : refCausesC r l day id = openF r l day [id] := by rw [refCausesC, if_neg ho]
    with_reducible repeat refine xc_seq ?_
    with_reducible refine xc_region ?_
    refine xo_mv rfl rfl rfl ?_
    refine xo_mv rfl rfl rfl ?_
    refine xo_mv rfl rfl rfl ?_
    refine xo_mv rfl rfl rfl ?_
    refine xo_call (fs := []) (cs := []) rfl rfl rfl refOpen_enters rfl (fun w1 hw1 => (refOpen_calls A B c c' r l day id w1 (Kd.C_below hr hw1.kx.below) (Kd.C_below hl hw1.kx.below) hk hkl).mono ?_)
    rintro e w2 ⟨a, v1, v2, rfl, hb, _⟩
    refine ⟨_, _, rfl, hw1.below hb, ?_⟩
    refine xo_mv rfl rfl rfl ?_
    refine xo_ext rfl rfl rfl rfl ?_
    refine xo_ext rfl rfl rfl rfl ?_
    refine xo_ext rfl rfl rfl rfl ?_
    refine xo_ext rfl rfl rfl rfl ?_
    refine xo_asg rfl rfl rfl ?_
    refine xo_asg rfl rfl rfl ?_
    refine xo_asg rfl rfl rfl ?_
    refine xo_asg rfl rfl rfl ?_
    with_reducible refine xo_nil ?_
    with_reducible repeat (first | refine xq_then ?_ | refine xq_blockN ?_ | refine xq_scopeN ?_)
    with_reducible repeat refine xc_seq ?_
    with_reducible refine xc_region ?_
    refine xo_mv rfl rfl rfl ?_
    refine xo_neq rfl rfl rfl rfl ?_
    refine xo_as (i := 32) rfl (congrArg Value.bool hd) ?_
    with_reducible refine xo_nil ?_
    with_reducible repeat (first | refine xq_then ?_ | refine xq_blockN ?_ | refine xq_scopeN ?_)
    with_reducible repeat refine xc_seq ?_
    refine xc_condT rfl ?_
    with_reducible repeat refine xc_seq ?_
    with_reducible refine xc_region ?_
    refine xo_mv rfl rfl rfl ?_
    refine xo_asg rfl rfl rfl ?_
    refine xo_asg rfl rfl rfl ?_
    with_reducible refine xo_nil ?_
    with_reducible repeat (first | refine xq_then ?_ | refine xq_blockN ?_ | refine xq_scopeN ?_)
    with_reducible repeat refine xc_seq ?_
    with_reducible refine xc_ret ?_
    with_reducible repeat (first | refine xq_thenR ?_ | refine xq_blockR ?_ | refine xq_scopeR ?_)
    refine xq_ret2 rfl rfl rfl fun w' hw => ⟨none, by rw [e1, e2]; rfl, ?_, hw.kx.below⟩
    rw [e1]
    exact ⟨fun _ => rfl, fun p hp => by cases hp⟩
  have hd : (!decide (openF r l day [id] = 0)) = false := by simp [ho]
  obtain ⟨hok, hkn⟩ := refOpen_zero ho
  have hlen := recorded_len hok
  have hsrt := sorted_of hok
  with_reducible repeat refine xc_seq ?_
  with_reducible refine xc_region ?_
  refine xo_mv rfl rfl rfl ?_
  refine xo_mv rfl rfl rfl ?_
  refine xo_mv rfl rfl rfl ?_
  refine xo_mv rfl rfl rfl ?_
  refine xo_call (fs := []) (cs := []) rfl rfl rfl refOpen_enters rfl (fun w1 hw1 => (refOpen_calls A B c c' r l day id w1 (Kd.C_below hr hw1.kx.below) (Kd.C_below hl hw1.kx.below) hk hkl).mono ?_)
  rintro e w2 ⟨a, v1, v2, rfl, hb, h0⟩
  obtain ⟨k, bg, bh, og, oh, rfl, rfl, rfl, hk1, hk2, _, hg1, hh1, hne, h1, h2, h3, h4⟩ := h0 ho
  refine ⟨_, _, rfl, hw1.more2 (φ := cel ((inB r (goneF r l day)).map .bool) 4) (φ2 := cel ((inB r (holdsF r (goneF r l day))).map .bool) 4) hb hg1 hh1 hne h1 h3 h2 h4, ?_⟩
  clear hb hg1 hh1 hne h1 h2 h3 h4 h0
  refine xo_mv rfl rfl rfl ?_
  refine xo_ext rfl rfl rfl rfl ?_
  refine xo_ext rfl rfl rfl rfl ?_
  refine xo_ext rfl rfl rfl rfl ?_
  refine xo_ext rfl rfl rfl rfl ?_
  refine xo_asg rfl rfl rfl ?_
  refine xo_asg rfl rfl rfl ?_
  refine xo_asg rfl rfl rfl ?_
  refine xo_asg rfl rfl rfl ?_
  with_reducible refine xo_nil ?_
  with_reducible repeat (first | refine xq_then ?_ | refine xq_blockN ?_ | refine xq_scopeN ?_)
  with_reducible repeat refine xc_seq ?_
  with_reducible refine xc_region ?_
  refine xo_mv rfl rfl rfl ?_
  refine xo_neq rfl rfl rfl rfl ?_
  refine xo_as (i := 32) rfl (congrArg Value.bool hd) ?_
  with_reducible refine xo_nil ?_
  with_reducible repeat (first | refine xq_then ?_ | refine xq_blockN ?_ | refine xq_scopeN ?_)
  with_reducible repeat refine xc_seq ?_
  refine xc_condF rfl ?_
  have hatk : (atF r id).toNat = k := by
    obtain ⟨a, h1, h2, h3⟩ := atF_known hkn
    rw [h2]
    exact sorted_inj hsrt h1 hk1 (h3.trans hk2.symm)
  with_reducible refine xc_skip ?_
  with_reducible repeat (first | refine xq_then ?_ | refine xq_blockN ?_ | refine xq_scopeN ?_)
  with_reducible repeat refine xc_seq ?_
  with_reducible refine xc_region ?_
  refine xo_mv rfl rfl rfl ?_
  refine xo_mv rfl rfl rfl ?_
  refine xo_ia T_ rfl rfl rfl rfl rfl ⟨by omega, by omega⟩ rfl ?_
  refine xo_loadI T_ rfl rfl rfl (by repeat (first | exact List.Mem.head _ | apply List.Mem.tail | apply List.mem_append_right)) (in_load hk1) rfl ?_
  with_reducible refine xo_nil ?_
  with_reducible repeat (first | refine xq_then ?_ | refine xq_blockN ?_ | refine xq_scopeN ?_)
  rw [hk2]
  with_reducible repeat refine xc_seq ?_
  refine xc_cond rfl (fun hh => ?_) (fun hh => ?_)
  · have hh : id ∈ holdsF r (goneF r l day) := by simpa using hh
    have e1 : refCausesR r l day id = [] := by rw [refCausesR, if_neg (fun h => h.2 hh)]
    have e2 : refCausesC r l day id = 8 := by rw [refCausesC, if_pos ho, if_pos hh]
    with_reducible repeat refine xc_seq ?_
    with_reducible refine xc_region ?_
    refine xo_asg rfl rfl rfl ?_
    refine xo_asg rfl rfl rfl ?_
    with_reducible refine xo_nil ?_
    with_reducible repeat (first | refine xq_then ?_ | refine xq_blockN ?_ | refine xq_scopeN ?_)
    with_reducible repeat refine xc_seq ?_
    with_reducible refine xc_ret ?_
    with_reducible repeat (first | refine xq_thenR ?_ | refine xq_blockR ?_ | refine xq_scopeR ?_)
    refine xq_ret2 rfl rfl rfl fun w' hw => ⟨none, by rw [e1, e2]; rfl, ?_, hw.kx.below⟩
    rw [e1]
    exact ⟨fun _ => rfl, fun p hp => by cases hp⟩
  have hh : id ∉ holdsF r (goneF r l day) := by simpa using hh
  have e1 : refCausesR r l day id = causesBest r (goneF r l day) k (2 ^ r.length) := by rw [refCausesR, if_pos ⟨ho, hh⟩, hatk]
  have e2 : refCausesC r l day id = 0 := by rw [refCausesC, if_pos ho, if_neg hh]
  have h2n : 2 ^ r.length ≤ 4096 := Nat.le_trans (Nat.pow_le_pow_right (by omega) hlen) (by decide)
  rw [e1, e2]
  clear e1 e2 hh
  generalize goneF r l day = H at *
  with_reducible refine xc_skip ?_
  with_reducible repeat (first | refine xq_then ?_ | refine xq_blockN ?_ | refine xq_scopeN ?_)
  with_reducible repeat refine xc_seq ?_
  with_reducible refine xc_region ?_
  refine xo_asg rfl rfl rfl ?_
  with_reducible refine xo_nil ?_
  with_reducible repeat (first | refine xq_then ?_ | refine xq_blockN ?_ | refine xq_scopeN ?_)
  with_reducible repeat refine xc_seq ?_
  with_reducible refine xc_region ?_
  refine xo_asg rfl rfl rfl ?_
  with_reducible refine xo_nil ?_
  with_reducible repeat (first | refine xq_then ?_ | refine xq_blockN ?_ | refine xq_scopeN ?_)
  with_reducible repeat refine xc_seq ?_
  with_reducible refine xc_block ?_
  refine xc_loop (γ := Nat × RowR) (fun q => q.1 ≤ 2 ^ r.length ∧ (q.2 = none → causesBest r H k q.1 = [])) (fun q => [(0, .slice A r.length c), (10, .int .i64 (k : Int)), (11, .slice (some ⟨bg, 0, none⟩) r.length r.length), (14, valR q.2 (causesBest r H k q.1).length), (15, .int .i64 (q.1 : Int))])
    (fun q => hpR 3 1 q.2 (causesBest r H k q.1).length ((causesBest r H k q.1).map (.int .i64)) ++ [(bg, true, cel ((inB r H).map .bool) 4)]) (fun q => 2 ^ r.length - q.1) (0, none) ⟨Nat.zero_le _, fun _ => rfl⟩ ⟨rfl, rfl, rfl, rfl, rfl, trivial⟩ (by repeat (first | exact List.Sublist.refl _ | apply List.Sublist.cons)) ?_
  rintro ⟨m, rr⟩ ⟨hm1, hrr⟩
  simp only at hm1 hrr ⊢
  have hbl := causesBest_len r H k m
  have hstep := causesBest_succ r H k m
  with_reducible repeat refine xc_seq ?_
  with_reducible refine xc_region ?_
  refine xo_mv rfl rfl rfl ?_
  refine xo_mv rfl rfl rfl ?_
  refine xo_len T_ rfl rfl rfl rfl ?_
  refine xo_shl1 rfl rfl rfl (by omega) rfl ?_
  refine xo_lss rfl rfl rfl rfl ?_
  with_reducible refine xo_nil ?_
  with_reducible repeat (first | refine xq_then ?_ | refine xq_blockN ?_ | refine xq_scopeN ?_)
  with_reducible repeat refine xc_seq ?_
  refine xc_cond rfl (fun h => ?_) (fun h => ?_)
  · have hlt : m < 2 ^ r.length := by have := of_decide_eq_true h; omega
    with_reducible refine xc_skip ?_
    with_reducible repeat (first | refine xq_then ?_ | refine xq_blockN ?_ | refine xq_scopeN ?_)
    with_reducible repeat refine xc_seq ?_
    with_reducible refine xc_block ?_
    with_reducible repeat refine xc_seq ?_
    with_reducible refine xc_region ?_
    refine xo_mv rfl rfl rfl ?_
    refine xo_mv rfl rfl rfl ?_
    refine xo_call (fs := []) (cs := []) rfl rfl rfl members_enters rfl (fun w1 hw1 => (members_calls A c r m w1 (by omega) (by omega)).mono ?_)
    rintro e w2 ⟨r16, rfl, hrow, hb⟩
    have h16 := hrow.1
    have hmb : ((memB r.length m).map Value.bool).length = r.length := by rw [List.length_map, memB_len]
    rcases r16 with _ | ⟨b16, c16⟩
    · have := h16 rfl
      rw [this] at hmb
      simp at hmb
      omega
    refine ⟨_, _, rfl, hw1.rowV hb hrow, ?_⟩
    rw [hmb]
    clear hrow hb hw1 h16 hmb
    refine xo_asg rfl rfl rfl ?_
    with_reducible refine xo_nil ?_
    with_reducible repeat (first | refine xq_then ?_ | refine xq_blockN ?_ | refine xq_scopeN ?_)
    with_reducible repeat refine xc_seq ?_
    with_reducible refine xc_region ?_
    refine xo_mv rfl rfl rfl ?_
    refine xo_len T_ rfl rfl rfl rfl ?_
    refine xo_mks TR_ rfl rfl rfl rfl rfl rfl (by omega) (by omega) rfl (fun b17 => ?_)
    refine xo_asg rfl rfl rfl ?_
    with_reducible refine xo_nil ?_
    with_reducible repeat (first | refine xq_then ?_ | refine xq_blockN ?_ | refine xq_scopeN ?_)
    with_reducible repeat refine xc_seq ?_
    with_reducible refine xc_region ?_
    refine xo_asg rfl rfl rfl ?_
    with_reducible refine xo_nil ?_
    with_reducible repeat (first | refine xq_then ?_ | refine xq_blockN ?_ | refine xq_scopeN ?_)
    with_reducible repeat refine xc_seq ?_
    with_reducible refine xc_region ?_
    refine xo_asg rfl rfl rfl ?_
    with_reducible refine xo_nil ?_
    with_reducible repeat (first | refine xq_then ?_ | refine xq_blockN ?_ | refine xq_scopeN ?_)
    with_reducible repeat refine xc_seq ?_
    with_reducible refine xc_block ?_
    refine xc_loop (γ := Nat) (fun i => i ≤ r.length) (fun i => [(0, .slice A r.length c), (10, .int .i64 (k : Int)), (11, .slice (some ⟨bg, 0, none⟩) r.length r.length), (14, valR rr (causesBest r H k m).length), (15, .int .i64 (m : Int)), (16, .slice (some ⟨b16, 0, none⟩) r.length c16), (17, .slice (some ⟨b17, 0, none⟩) r.length r.length), (18, .bool (okC r H m i)), (19, .int .i64 (i : Int))])
      (fun i => (b17, true, cel ((fillB (fun i => decide (idAt r i ∈ H) && !bitB m i) r.length i).map .bool) 4) :: (b16, true, orow 4 1 r.length c16 ((memB r.length m).map .bool)) :: (hpR 3 1 rr (causesBest r H k m).length ((causesBest r H k m).map (.int .i64)) ++ [(bg, true, cel ((inB r H).map .bool) 4)])) (fun i => r.length - i) 0 (Nat.zero_le _) ⟨rfl, rfl, rfl, rfl, rfl, rfl, rfl, rfl, rfl, trivial⟩ (by rw [fillB_zero, List.map_replicate]; exact List.Sublist.refl _) ?_
    intro i hi
    with_reducible repeat refine xc_seq ?_
    with_reducible refine xc_region ?_
    refine xo_mv rfl rfl rfl ?_
    refine xo_mv rfl rfl rfl ?_
    refine xo_len T_ rfl rfl rfl rfl ?_
    refine xo_lss rfl rfl rfl rfl ?_
    with_reducible refine xo_nil ?_
    with_reducible repeat (first | refine xq_then ?_ | refine xq_blockN ?_ | refine xq_scopeN ?_)
    with_reducible repeat refine xc_seq ?_
    refine xc_cond rfl (fun h => ?_) (fun h => ?_)
    · have hil : i < r.length := by have := of_decide_eq_true h; omega
      have hsu := okC_succ r H m i
      with_reducible refine xc_skip ?_
      with_reducible repeat (first | refine xq_then ?_ | refine xq_blockN ?_ | refine xq_scopeN ?_)
      with_reducible repeat refine xc_seq ?_
      with_reducible refine xc_block ?_
      cases hq : okC r H m i <;> cases hb : bitB m i <;> cases hgq : decide (idAt r i ∈ H)
      all_goals
        with_reducible repeat refine xc_seq ?_
        with_reducible refine xc_region ?_
        refine xo_mv rfl rfl rfl ?_
        refine xo_mv rfl rfl rfl ?_
        first
          | refine xo_not rfl rfl ?_
          | (refine xo_mv rfl rfl rfl ?_)
        first
          | refine xo_not rfl rfl ?_
          | (refine xo_mv rfl rfl rfl ?_)
        first
          | refine xo_not rfl rfl ?_
          | (refine xo_ia T_ rfl rfl rfl rfl rfl ⟨by omega, by omega⟩ rfl ?_)
        first
          | refine xo_not rfl rfl ?_
          | (refine xo_loadZ T_ (k := i) rfl rfl rfl (ad1 _ _) (by repeat (first | exact List.Mem.head _ | apply List.Mem.tail | apply List.mem_append_right)) (mem_load hil hb) rfl ?_)
        first
          | refine xo_not rfl rfl ?_
          | (refine xo_notOp rfl rfl rfl ?_)
        first
          | refine xo_not rfl rfl ?_
          | (refine xo_mv rfl rfl rfl ?_)
        first
          | refine xo_not rfl rfl ?_
          | (refine xo_mv rfl rfl rfl ?_)
        first
          | refine xo_not rfl rfl ?_
          | (refine xo_mv rfl rfl rfl ?_)
        first
          | refine xo_not rfl rfl ?_
          | (refine xo_ia T_ rfl rfl rfl rfl rfl ⟨by omega, by omega⟩ rfl ?_)
        first
          | refine xo_not rfl rfl ?_
          | (refine xo_loadI T_ rfl rfl rfl (by repeat (first | exact List.Mem.head _ | exact List.mem_append_left _ (List.Mem.head _) | apply List.mem_append_right | apply List.Mem.tail)) (by rw [in_load hil, hgq]) rfl ?_)
        first
          | refine xo_not rfl rfl ?_
          | (first | refine xo_pickT rfl rfl rfl rfl ?_ | refine xo_pickF rfl rfl rfl rfl ?_)
        first | refine xo_pickT rfl rfl rfl rfl ?_ | refine xo_pickF rfl rfl rfl rfl ?_
        refine xo_asg rfl rfl rfl ?_
        with_reducible refine xo_nil ?_
        with_reducible repeat (first | refine xq_then ?_ | refine xq_blockN ?_ | refine xq_scopeN ?_)
        with_reducible repeat refine xc_seq ?_
        with_reducible refine xc_region ?_
        refine xo_mv rfl rfl rfl ?_
        refine xo_mv rfl rfl rfl ?_
        refine xo_mv rfl rfl rfl ?_
        refine xo_mv rfl rfl rfl ?_
        refine xo_ia T_ rfl rfl rfl rfl rfl ⟨by omega, by omega⟩ rfl ?_
        refine xo_loadI T_ rfl rfl rfl (by repeat (first | exact List.Mem.head _ | exact List.mem_append_left _ (List.Mem.head _) | apply List.mem_append_right | apply List.Mem.tail)) (by rw [in_load hil, hgq]) rfl ?_
        refine xo_mv rfl rfl rfl ?_
        first
          | refine xo_not rfl rfl ?_
          | (refine xo_mv rfl rfl rfl ?_)
        first
          | refine xo_not rfl rfl ?_
          | (refine xo_mv rfl rfl rfl ?_)
        first
          | refine xo_not rfl rfl ?_
          | (refine xo_ia T_ rfl rfl rfl rfl rfl ⟨by omega, by omega⟩ rfl ?_)
        first
          | refine xo_not rfl rfl ?_
          | (refine xo_loadZ T_ (k := i) rfl rfl rfl (ad1 _ _) (by repeat (first | exact List.Mem.head _ | apply List.Mem.tail | apply List.mem_append_right)) (mem_load hil hb) rfl ?_)
        first
          | refine xo_not rfl rfl ?_
          | (refine xo_notOp rfl rfl rfl ?_)
        first | refine xo_pickT rfl rfl rfl rfl ?_ | refine xo_pickF rfl rfl rfl rfl ?_
        refine xo_ia T_ rfl rfl rfl rfl rfl ⟨by omega, by omega⟩ rfl ?_
        refine xo_storeI T_ rfl rfl rfl rfl (by repeat (first | exact List.Mem.head _ | apply List.Mem.tail | apply List.mem_append_right)) rfl rfl (fill_lt hil) (fill_upd (f := fun i => decide (idAt r i ∈ H) && !bitB m i) (by simp only [hb, hgq]; rfl)) rfl ?_
        with_reducible refine xo_nil ?_
        with_reducible repeat (first | refine xq_then ?_ | refine xq_blockN ?_ | refine xq_scopeN ?_)
        with_reducible repeat refine xc_seq ?_
        with_reducible refine xc_region ?_
        refine xo_mv rfl rfl rfl ?_
        refine xo_add rfl rfl rfl (by omega) rfl ?_
        refine xo_asg rfl rfl rfl ?_
        with_reducible refine xo_nil ?_
        with_reducible repeat (first | refine xq_then ?_ | refine xq_blockN ?_ | refine xq_scopeN ?_)
        exact xq_again _ _ _ _ _ (i + 1) (by omega) (by omega) ⟨rfl, rfl, rfl, rfl, rfl, rfl, rfl, by rw [hsu, hq, hb, hgq]; rfl, rfl, trivial⟩ (List.Sublist.refl _)
    · have hge : ¬ i < r.length := by have := of_decide_eq_false h; omega
      have hii : i = r.length := by omega
      subst hii
      rw [fill_diff hsrt]
      with_reducible refine xc_exit ?_
      with_reducible repeat (first | refine xq_blockX ?_ | refine xq_thenE ?_ | refine xq_blockE rfl ?_ | refine xq_scopeE ?_)
      with_reducible repeat (first | refine xq_then ?_ | refine xq_blockN ?_ | refine xq_scopeN ?_)
      cases hq : okC r H m r.length
      · have hnx : causesBest r H k (m + 1) = causesBest r H k m := by rw [hstep, causesStep, hq]; rfl
        with_reducible repeat refine xc_seq ?_
        with_reducible refine xc_region ?_
        refine xo_mv rfl rfl rfl ?_
        refine xo_notOp rfl rfl rfl ?_
        refine xo_mv rfl rfl rfl ?_
        first
          | refine xo_not rfl rfl ?_
          | (refine xo_mv rfl rfl rfl ?_)
        first
          | refine xo_not rfl rfl ?_
          | (refine xo_mv rfl rfl rfl ?_)
        first
          | refine xo_not rfl rfl ?_
          | (fail "NO RULE: Op.call -5")
        first
          | refine xo_not rfl rfl ?_
          | (refine xo_mv rfl rfl rfl ?_)
        first
          | refine xo_not rfl rfl ?_
          | (refine xo_ia T_ rfl rfl rfl rfl rfl ⟨by omega, by omega⟩ rfl ?_)
        first
          | refine xo_not rfl rfl ?_
          | (refine xo_loadR0 T_ rfl rfl rfl (by first | assumption | exact RO.fld (by assumption) rfl) rfl ?_)
        first
          | refine xo_not rfl rfl ?_
          | (refine xo_notOp rfl rfl rfl ?_)
        first | refine xo_pickT rfl rfl rfl rfl ?_ | refine xo_pickF rfl rfl rfl rfl ?_
        with_reducible refine xo_nil ?_
        with_reducible repeat (first | refine xq_then ?_ | refine xq_blockN ?_ | refine xq_scopeN ?_)
        with_reducible repeat refine xc_seq ?_
        refine xc_condT rfl ?_
        with_reducible refine xc_exit ?_
        with_reducible repeat (first | refine xq_blockX ?_ | refine xq_thenE ?_ | refine xq_blockE rfl ?_ | refine xq_scopeE ?_)
        with_reducible repeat (first | refine xq_then ?_ | refine xq_blockN ?_ | refine xq_scopeN ?_)
        with_reducible repeat refine xc_seq ?_
        with_reducible refine xc_region ?_
        refine xo_mv rfl rfl rfl ?_
        refine xo_add rfl rfl rfl (by omega) rfl ?_
        refine xo_asg rfl rfl rfl ?_
        with_reducible refine xo_nil ?_
        with_reducible repeat (first | refine xq_then ?_ | refine xq_blockN ?_ | refine xq_scopeN ?_)
        refine xq_again _ _ _ _ _ (m + 1, rr) ⟨hlt, by rw [hnx]; exact hrr⟩ (by first | omega | (simp only; omega)) ⟨rfl, rfl, rfl, by rw [hnx]; rfl, rfl, trivial⟩ ?_
        simp only [hnx]
        exact (List.sublist_cons_self _ _).trans (List.sublist_cons_self _ _)
      · with_reducible repeat refine xc_seq ?_
        with_reducible refine xc_region ?_
        refine xo_mv rfl rfl rfl ?_
        refine xo_notOp rfl rfl rfl ?_
        refine xo_mv rfl rfl rfl ?_
        first
          | refine xo_not rfl rfl ?_
          | (refine xo_mv rfl rfl rfl ?_)
        first
          | refine xo_not rfl rfl ?_
          | (refine xo_mv rfl rfl rfl ?_)
        first
          | refine xo_not rfl rfl ?_
          | (refine xo_call (fs := []) (cs := []) rfl rfl rfl hold_enters rfl (fun w1 hw1 => (hold_calls A _ c _ r (diffF H (selM r m)) w1 (Kd.C_below hr hw1.kx.below) (C_inB hw1 (by repeat (first | exact List.Mem.head _ | apply List.Mem.tail | apply List.mem_append_right)) (by omega)) hok).mono ?_)
             rintro e w3 ⟨b90, o90, rfl, hb, hge, h1, h2⟩
             refine ⟨_, _, rfl, hw1.more hb hge h1 h2, ?_⟩
             clear hb hge h1 h2 hw1)
        first
          | refine xo_not rfl rfl ?_
          | (refine xo_mv rfl rfl rfl ?_)
        first
          | refine xo_not rfl rfl ?_
          | (refine xo_ia T_ rfl rfl rfl rfl rfl ⟨by omega, by omega⟩ rfl ?_)
        first
          | refine xo_not rfl rfl ?_
          | (refine xo_loadI T_ rfl rfl rfl (by repeat (first | exact List.Mem.head _ | apply List.Mem.tail | apply List.mem_append_right)) (in_load hk1) rfl ?_)
        first
          | refine xo_not rfl rfl ?_
          | (refine xo_notOp rfl rfl rfl ?_)
        first | refine xo_pickT rfl rfl rfl rfl ?_ | refine xo_pickF rfl rfl rfl rfl ?_
        with_reducible refine xo_nil ?_
        with_reducible repeat (first | refine xq_then ?_ | refine xq_blockN ?_ | refine xq_scopeN ?_)
        with_reducible repeat refine xc_seq ?_
        refine xc_cond rfl (fun hcar => ?_) (fun hcar => ?_)
        · simp only [Bool.not_eq_true'] at hcar
          have hnx : causesBest r H k (m + 1) = causesBest r H k m := by rw [hstep, causesStep, hcar, Bool.and_false]; rfl
          with_reducible refine xc_exit ?_
          with_reducible repeat (first | refine xq_blockX ?_ | refine xq_thenE ?_ | refine xq_blockE rfl ?_ | refine xq_scopeE ?_)
          with_reducible repeat (first | refine xq_then ?_ | refine xq_blockN ?_ | refine xq_scopeN ?_)
          with_reducible repeat refine xc_seq ?_
          with_reducible refine xc_region ?_
          refine xo_mv rfl rfl rfl ?_
          refine xo_add rfl rfl rfl (by omega) rfl ?_
          refine xo_asg rfl rfl rfl ?_
          with_reducible refine xo_nil ?_
          with_reducible repeat (first | refine xq_then ?_ | refine xq_blockN ?_ | refine xq_scopeN ?_)
          refine xq_again _ _ _ _ _ (m + 1, rr) ⟨hlt, by rw [hnx]; exact hrr⟩ (by first | omega | (simp only; omega)) ⟨rfl, rfl, rfl, by rw [hnx]; rfl, rfl, trivial⟩ ?_
          simp only [hnx]
          exact ((List.sublist_cons_self _ _).trans (List.sublist_cons_self _ _)).trans (List.sublist_cons_self _ _)
        simp only [Bool.not_eq_false'] at hcar
        rw [causesStep, hq, hcar, Bool.and_self, Bool.true_and] at hstep
        with_reducible refine xc_skip ?_
        with_reducible repeat (first | refine xq_then ?_ | refine xq_blockN ?_ | refine xq_scopeN ?_)
        with_reducible repeat refine xc_seq ?_
        with_reducible refine xc_region ?_
        refine xo_mv rfl rfl rfl ?_
        refine xo_mv rfl rfl rfl ?_
        refine xo_call (fs := []) (cs := []) rfl rfl rfl ids_enters rfl (fun w1 hw1 => (ids_calls A _ c _ r (fun n => decide (n ∈ selM r m)) w1 (Kd.C_below hr hw1.kx.below) (C_memB hw1 hsrt (by repeat (first | exact List.Mem.head _ | apply List.Mem.tail | apply List.mem_append_right)) (by omega)) (by omega)).mono ?_)
        rintro e w4 ⟨r19, rfl, hrow, hb⟩
        have h19 := hrow.1
        refine ⟨_, _, rfl, hw1.row hb hrow, ?_⟩
        clear hrow hb hw1
        refine xo_asg rfl rfl rfl ?_
        with_reducible refine xo_nil ?_
        with_reducible repeat (first | refine xq_then ?_ | refine xq_blockN ?_ | refine xq_scopeN ?_)
        have hil := idsF_len r (fun n => decide (n ∈ selM r m))
        generalize idsF r (fun n => decide (n ∈ selM r m)) = have_ at *
        refine xc_cut (γ := Unit) (fun _ => True) (fun _ => [(0, .slice A r.length c), (10, .int .i64 (k : Int)), (11, .slice (some ⟨bg, 0, none⟩) r.length r.length), (14, valR rr (causesBest r H k m).length), (15, .int .i64 (m : Int)), (20, valR r19 have_.length), (106, .bool (decide (((causesBest r H k m).length : Int) = 0) || aheadF have_ (causesBest r H k m)))])
          (fun _ => hpR 3 1 r19 have_.length (have_.map (.int .i64)) ++ (hpR 3 1 rr (causesBest r H k m).length ((causesBest r H k m).map (.int .i64)) ++ [(bg, true, cel ((inB r H).map .bool) 4)])) ?_ (fun _ _ => ?_)
        · cases hz : decide (((causesBest r H k m).length : Int) = 0)
          all_goals
            with_reducible repeat refine xc_seq ?_
            with_reducible refine xc_region ?_
            refine xo_mv rfl rfl rfl ?_
            refine xo_lenR T_ rfl rfl (fun h => by rw [hrr h]; rfl) rfl rfl ?_
            refine xo_eql rfl rfl rfl rfl ?_
            refine xo_as (i := 101) rfl (congrArg Value.bool hz) ?_
            refine xo_mv rfl rfl rfl ?_
            first
              | refine xo_not rfl rfl ?_
              | (refine xo_mv rfl rfl rfl ?_)
            first
              | refine xo_not rfl rfl ?_
              | (refine xo_mv rfl rfl rfl ?_)
            first
              | refine xo_not rfl rfl ?_
              | (refine xo_callB (fs := []) (cs := []) rfl rfl rfl ahead_enters rfl (fun w1 hw1 => aheadRows hw1 (by omega) (by omega) (hw1.rowAt h19 (fun p hp => by subst hp; exact (by repeat (first | exact List.Mem.head _ | exact List.mem_append_left _ (List.Mem.head _) | apply List.mem_append_right | apply List.Mem.tail)))) (hw1.rowAt hrr (fun p hp => by subst hp; exact (by repeat (first | exact List.Mem.head _ | exact List.mem_append_left _ (List.Mem.head _) | apply List.mem_append_right | apply List.Mem.tail))))) ?_)
            first | refine xo_pickT rfl rfl rfl rfl ?_ | refine xo_pickF rfl rfl rfl rfl ?_
            with_reducible refine xo_nil ?_
            with_reducible repeat (first | refine xq_then ?_ | refine xq_blockN ?_ | refine xq_scopeN ?_)
            exact xq_meet _ _ _ () trivial ⟨rfl, rfl, rfl, rfl, rfl, rfl, rfl, trivial⟩ (List.Sublist.append (List.Sublist.refl _) (((List.sublist_cons_self _ _).trans (List.sublist_cons_self _ _)).trans (List.sublist_cons_self _ _)))
        with_reducible repeat refine xc_seq ?_
        refine xc_cond rfl (fun hb => ?_) (fun hb => ?_)
        · rw [hb, if_pos rfl] at hstep
          with_reducible repeat refine xc_seq ?_
          with_reducible refine xc_region ?_
          refine xo_mv rfl rfl rfl ?_
          refine xo_asg rfl rfl rfl ?_
          with_reducible refine xo_nil ?_
          with_reducible repeat (first | refine xq_then ?_ | refine xq_blockN ?_ | refine xq_scopeN ?_)
          with_reducible repeat refine xc_seq ?_
          with_reducible refine xc_region ?_
          refine xo_mv rfl rfl rfl ?_
          refine xo_add rfl rfl rfl (by omega) rfl ?_
          refine xo_asg rfl rfl rfl ?_
          with_reducible refine xo_nil ?_
          with_reducible repeat (first | refine xq_then ?_ | refine xq_blockN ?_ | refine xq_scopeN ?_)
          refine xq_again _ _ _ _ _ (m + 1, r19) ⟨hlt, by rw [hstep]; exact h19⟩ (by first | omega | (simp only; omega)) ⟨rfl, rfl, rfl, by rw [hstep]; rfl, rfl, trivial⟩ ?_
          simp only [hstep]
          exact List.Sublist.append (List.Sublist.refl _) (List.sublist_append_right _ _)
        · rw [hb, if_neg (by simp)] at hstep
          with_reducible refine xc_skip ?_
          with_reducible repeat (first | refine xq_then ?_ | refine xq_blockN ?_ | refine xq_scopeN ?_)
          with_reducible repeat refine xc_seq ?_
          with_reducible refine xc_region ?_
          refine xo_mv rfl rfl rfl ?_
          refine xo_add rfl rfl rfl (by omega) rfl ?_
          refine xo_asg rfl rfl rfl ?_
          with_reducible refine xo_nil ?_
          with_reducible repeat (first | refine xq_then ?_ | refine xq_blockN ?_ | refine xq_scopeN ?_)
          refine xq_again _ _ _ _ _ (m + 1, rr) ⟨hlt, by rw [hstep]; exact hrr⟩ (by first | omega | (simp only; omega)) ⟨rfl, rfl, rfl, by rw [hstep]; rfl, rfl, trivial⟩ ?_
          simp only [hstep]
          exact List.sublist_append_right _ _
  · have hge : ¬ m < 2 ^ r.length := by have := of_decide_eq_false h; omega
    have hmm : m = 2 ^ r.length := by omega
    subst hmm
    with_reducible refine xc_exit ?_
    with_reducible repeat (first | refine xq_blockX ?_ | refine xq_thenE ?_ | refine xq_blockE rfl ?_ | refine xq_scopeE ?_)
    with_reducible repeat (first | refine xq_then ?_ | refine xq_blockN ?_ | refine xq_scopeN ?_)
    with_reducible repeat refine xc_seq ?_
    with_reducible refine xc_region ?_
    refine xo_mv rfl rfl rfl ?_
    refine xo_asg rfl rfl rfl ?_
    refine xo_asg rfl rfl rfl ?_
    with_reducible refine xo_nil ?_
    with_reducible repeat (first | refine xq_then ?_ | refine xq_blockN ?_ | refine xq_scopeN ?_)
    with_reducible repeat refine xc_seq ?_
    with_reducible refine xc_ret ?_
    with_reducible repeat (first | refine xq_thenR ?_ | refine xq_blockR ?_ | refine xq_scopeR ?_)
    exact xq_ret2 rfl rfl rfl fun w' hw => ⟨rr, rfl, RowAt.of hw hrr, hw.kx.below⟩
theorem refCauses_enters : ∀ args w, (callFunc 19 args).run Try.prog w = .ok (.enter 19 args) w := enters_of Try.func19 (by kernel_rfl) rfl
end Go.Proofs.Ytcmepdamemnbkaa
namespace Go.Proofs.Ytcmepdamemnbkaa
open Go.RowKit Go.Proofs.YtcmepdamemnbkaaW.PrintWords
set_option linter.unusedVariables false
set_option linter.unusedSimpArgs false
theorem lexF_irrefl : ∀ a : List Int, lexF a a = false
  | [] => rfl
  | x :: a => by rw [lexF, if_pos rfl]; exact lexF_irrefl a
theorem lexF_tri : ∀ a b : List Int, a.length = b.length → lexF a b = false → lexF b a = false → a = b
  | [], [], _, _, _ => rfl
  | [], _ :: _, h, _, _ => by simp at h
  | _ :: _, [], h, _, _ => by simp at h
  | x :: a, y :: b, h, h1, h2 => by
    rw [lexF] at h1 h2
    by_cases e : x = y
    · subst e
      rw [if_pos rfl] at h1 h2
      rw [lexF_tri a b (by simpa using h) h1 h2]
    · rw [if_neg e] at h1
      rw [if_neg (fun q => e q.symm)] at h2
      have := of_decide_eq_false h1
      have := of_decide_eq_false h2
      omega
theorem lexF_trans : ∀ a b c : List Int, lexF a b = true → lexF b c = true → lexF a c = true
  | [], _, _, h, _ => by simp [lexF] at h
  | _ :: _, [], _, h, _ => by simp [lexF] at h
  | _ :: _, _ :: _, [], _, h => by simp [lexF] at h
  | x :: a, y :: b, z :: c, h1, h2 => by
    rw [lexF] at h1 h2 ⊢
    by_cases e1 : x = y
    · subst e1
      rw [if_pos rfl] at h1
      by_cases e2 : x = z
      · subst e2
        rw [if_pos rfl] at h2 ⊢
        exact lexF_trans a b c h1 h2
      · rw [if_neg e2] at h2 ⊢
        exact h2
    · rw [if_neg e1] at h1
      have h1 := of_decide_eq_true h1
      by_cases e2 : y = z
      · subst e2
        rw [if_neg e1]
        exact decide_eq_true h1
      · rw [if_neg e2] at h2
        have h2 := of_decide_eq_true h2
        rw [if_neg (by omega)]
        exact decide_eq_true (by omega)
theorem aheadF_irrefl (a : List Int) : aheadF a a = false := by rw [aheadF, if_pos rfl, lexF_irrefl]
theorem aheadF_tri {a b : List Int} (h1 : aheadF a b = false) (h2 : aheadF b a = false) : a = b := by
  unfold aheadF at h1 h2
  by_cases e : a.length = b.length
  · rw [if_pos e] at h1
    rw [if_pos e.symm] at h2
    exact lexF_tri a b e h1 h2
  · rw [if_neg e] at h1
    rw [if_neg (fun q => e q.symm)] at h2
    have := of_decide_eq_false h1
    have := of_decide_eq_false h2
    omega
theorem aheadF_trans {a b c : List Int} (h1 : aheadF a b = true) (h2 : aheadF b c = true) : aheadF a c = true := by
  unfold aheadF at *
  by_cases e1 : a.length = b.length <;> by_cases e2 : b.length = c.length
  · rw [if_pos e1] at h1
    rw [if_pos e2] at h2
    rw [if_pos (e1.trans e2)]
    exact lexF_trans a b c h1 h2
  · rw [if_neg e2] at h2
    rw [if_neg (fun q => e2 (e1.symm.trans q))]
    have := of_decide_eq_true h2
    exact decide_eq_true (by omega)
  · rw [if_neg e1] at h1
    rw [if_neg (fun q => e1 (q.trans e2.symm))]
    have := of_decide_eq_true h1
    exact decide_eq_true (by omega)
  · rw [if_neg e1] at h1
    rw [if_neg e2] at h2
    have h3 := of_decide_eq_true h1
    have h4 := of_decide_eq_true h2
    rw [if_neg (by omega)]
    exact decide_eq_true (by omega)
/-- the least of the good lists, if there is one -/
structure Least (good : List Int → Prop) (best : List Int) (found : Prop) : Prop where
  none : ¬ found → best = [] ∧ ∀ y, ¬ good y
  is : found → good best ∧ ∀ y, good y → aheadF y best = false
theorem Least.eq {g g' : List Int → Prop} {b b' : List Int} {f f' : Prop} (h : Least g b f) (k : Least g' b' f') (hg : ∀ y, g y ↔ g' y) : b = b' := by
  by_cases hf : f
  · by_cases hf' : f'
    · obtain ⟨h1, h2⟩ := h.is hf
      obtain ⟨h3, h4⟩ := k.is hf'
      exact aheadF_tri (h4 _ ((hg _).1 h1)) (h2 _ ((hg _).2 h3))
    · exact absurd ((hg _).1 (h.is hf).1) ((k.none hf').2 _)
  · by_cases hf' : f'
    · exact absurd ((hg _).2 (k.is hf').1) ((h.none hf).2 _)
    · rw [(h.none hf).1, (k.none hf').1]
theorem Least.mono {g g' : List Int → Prop} {b : List Int} {f f' : Prop} (h : Least g b f) (hg : ∀ y, g y ↔ g' y) (hf : f ↔ f') : Least g' b f' :=
  ⟨fun q => ⟨(h.none (fun x => q (hf.1 x))).1, fun y hy => (h.none (fun x => q (hf.1 x))).2 y ((hg y).2 hy)⟩, fun q => ⟨(hg _).1 (h.is (hf.2 q)).1, fun y hy => (h.is (hf.2 q)).2 y ((hg y).2 hy)⟩⟩
theorem Least.start : Least (fun _ => False) [] False := ⟨fun _ => ⟨rfl, fun _ h => h⟩, fun h => h.elim⟩
/-- one list more: it is good and ahead (or the first): it takes the place -/
theorem Least.step {g : List Int → Prop} {b : List Int} {f : Prop} (h : Least g b f) (x : List Int) : (f → aheadF x b = true) → Least (fun y => g y ∨ y = x) x True := fun hx =>
  ⟨fun q => absurd trivial q, fun _ => ⟨.inr rfl, fun y hy => by
    rcases hy with hy | rfl
    · by_cases hf : f
      · obtain ⟨h1, h2⟩ := h.is hf
        cases h3 : aheadF y x with
        | false => rfl
        | true =>
          have h4 := aheadF_trans h3 (hx hf)
          rw [h2 y hy] at h4
          cases h4
      · exact absurd hy ((h.none hf).2 y)
    · exact aheadF_irrefl _⟩⟩
/-- it is good and not ahead: what was best stays -/
theorem Least.stay {g : List Int → Prop} {b : List Int} {f : Prop} (h : Least g b f) (x : List Int) (hf : f) (hx : aheadF x b = false) : Least (fun y => g y ∨ y = x) b f :=
  ⟨fun q => absurd hf q, fun _ => ⟨.inl (h.is hf).1, fun y hy => by
    rcases hy with hy | rfl
    · exact (h.is hf).2 y hy
    · exact hx⟩⟩
/-- the reference's search -/
theorem least_ref (c : Nat → Bool) (row : Nat → List Int) (hne : ∀ k, c k = true → row k ≠ []) : ∀ m, Least (fun y => ∃ k, k < m ∧ c k = true ∧ y = row k)
    ((List.range m).foldl (fun best k => if c k && (decide ((best.length : Int) = 0) || aheadF (row k) best) then row k else best) []) (∃ k, k < m ∧ c k = true)
  | 0 => Least.start.mono (fun y => by simp) (by simp)
  | m + 1 => by
    have ih := least_ref c row hne m
    rw [List.range_succ, List.foldl_append, List.foldl_cons, List.foldl_nil]
    generalize (List.range m).foldl (fun best k => if c k && (decide ((best.length : Int) = 0) || aheadF (row k) best) then row k else best) [] = b at *
    have hg : ∀ y, ((∃ k, k < m ∧ c k = true ∧ y = row k) ∨ (c m = true ∧ y = row m)) ↔ ∃ k, k < m + 1 ∧ c k = true ∧ y = row k := fun y => by
      constructor
      · rintro (⟨k, h1, h2⟩ | h)
        · exact ⟨k, by omega, h2⟩
        · exact ⟨m, by omega, h⟩
      · rintro ⟨k, h1, h2⟩
        by_cases e : k = m
        · subst e; exact .inr h2
        · exact .inl ⟨k, by omega, h2⟩
    have hf : ((∃ k, k < m ∧ c k = true) ∨ c m = true) ↔ ∃ k, k < m + 1 ∧ c k = true := by
      constructor
      · rintro (⟨k, h1, h2⟩ | h)
        · exact ⟨k, by omega, h2⟩
        · exact ⟨m, by omega, h⟩
      · rintro ⟨k, h1, h2⟩
        by_cases e : k = m
        · subst e; exact .inr h2
        · exact .inl ⟨k, by omega, h2⟩
    cases hc : c m
    · rw [Bool.false_and, if_neg (by simp)]
      exact ih.mono (fun y => by rw [← hg]; simp [hc]) (by rw [← hf]; simp [hc])
    · rw [Bool.true_and]
      by_cases hfm : ∃ k, k < m ∧ c k = true
      · obtain ⟨h1, h2⟩ := ih.is hfm
        have hb0 : decide ((b.length : Int) = 0) = false := by
          obtain ⟨k, _, h3, h4⟩ := h1
          have := hne k h3
          rw [← h4] at this
          exact decide_eq_false fun q => this (List.eq_nil_of_length_eq_zero (by omega))
        rw [hb0, Bool.false_or]
        cases ha : aheadF (row m) b
        · rw [if_neg (by simp)]
          exact (ih.stay (row m) hfm ha).mono (fun y => by rw [← hg]; simp [hc]) (by rw [← hf]; simp [hfm])
        · rw [if_pos rfl]
          exact (ih.step (row m) (fun _ => ha)).mono (fun y => by rw [← hg]; simp [hc]) (by rw [← hf]; simp [hc])
      · rw [(ih.none hfm).1]
        simp only [List.length_nil, Int.ofNat_zero, decide_true, Bool.true_or, if_true]
        exact (ih.step (row m) (fun q => absurd q hfm)).mono (fun y => by rw [← hg]; simp [hc]) (by rw [← hf]; simp [hc])
/-- trust's search -/
def fewStep (row : Nat → List Int) (p : List Int → Bool) (s : List Int × Bool) (k : Nat) : List Int × Bool := if s.2 && !aheadF (row k) s.1 then s else if p (row k) then (row k, true) else s
theorem least_few (row : Nat → List Int) (p : List Int → Bool) : ∀ m, Least (fun y => ∃ k, k < m ∧ p (row k) = true ∧ y = row k) ((List.range m).foldl (fewStep row p) ([], false)).1 (((List.range m).foldl (fewStep row p) ([], false)).2 = true)
  | 0 => Least.start.mono (fun y => by simp) (by simp)
  | m + 1 => by
    have ih := least_few row p m
    rw [List.range_succ, List.foldl_append, List.foldl_cons, List.foldl_nil]
    generalize (List.range m).foldl (fewStep row p) ([], false) = s at *
    obtain ⟨b, f⟩ := s
    simp only at ih
    have hg : ∀ y, ((∃ k, k < m ∧ p (row k) = true ∧ y = row k) ∨ (p (row m) = true ∧ y = row m)) ↔ ∃ k, k < m + 1 ∧ p (row k) = true ∧ y = row k := fun y => by
      constructor
      · rintro (⟨k, h1, h2⟩ | h)
        · exact ⟨k, by omega, h2⟩
        · exact ⟨m, by omega, h⟩
      · rintro ⟨k, h1, h2⟩
        by_cases e : k = m
        · subst e; exact .inr h2
        · exact .inl ⟨k, by omega, h2⟩
    unfold fewStep
    simp only
    cases hf : f && !aheadF (row m) b
    · rw [if_neg (by simp)]
      cases hp : p (row m)
      · rw [if_neg (by simp)]
        exact ih.mono (fun y => by rw [← hg]; simp [hp]) Iff.rfl
      · rw [if_pos rfl]
        refine (ih.step (row m) (fun q => ?_)).mono (fun y => by rw [← hg]; simp [hp]) (by simp)
        rw [q, Bool.true_and, Bool.not_eq_false'] at hf
        exact hf
    · rw [if_pos rfl]
      simp only [Bool.and_eq_true, Bool.not_eq_true'] at hf
      cases hp : p (row m)
      · exact ih.mono (fun y => by rw [← hg]; simp [hp]) Iff.rfl
      · exact (ih.stay (row m) hf.1 hf.2).mono (fun y => by rw [← hg]; simp [hp]) Iff.rfl
end Go.Proofs.Ytcmepdamemnbkaa
namespace Go.Proofs.Ytcmepdamemnbkaa
open Go.RowKit Go.Proofs.YtcmepdamemnbkaaW.PrintWords
set_option linter.unusedVariables false
set_option linter.unusedSimpArgs false
def subM (xs : List Int) (k : Nat) : List Int := ((List.range xs.length).filter (bitB k)).map fun i => xs.getD i 0
theorem bitB_zero (k : Nat) : bitB k 0 = decide (k % 2 = 1) := by
  simp only [bitB, Nat.pow_zero, Nat.div_one]
  rw [decide_eq_decide]
  omega
theorem bitB_succ (k i : Nat) : bitB k (i + 1) = bitB (k / 2) i := by
  simp only [bitB]
  rw [Nat.pow_succ, Nat.mul_comm, Nat.div_div_eq_div_mul]
theorem subM_cons (x : Int) (xs : List Int) (k : Nat) : subM (x :: xs) k = (if k % 2 = 1 then [x] else []) ++ subM xs (k / 2) := by
  unfold subM
  rw [List.length_cons, List.range_succ_eq_map, List.filter_cons, bitB_zero]
  have h : ((List.map Nat.succ (List.range xs.length)).filter (bitB k)).map (fun i => (x :: xs).getD i 0) = ((List.range xs.length).filter (bitB (k / 2))).map fun i => xs.getD i 0 := by
    rw [List.filter_map, List.map_map]
    congr 1
    refine List.filter_congr fun i _ => ?_
    exact bitB_succ k i
  by_cases e : k % 2 = 1
  · rw [if_pos (by simpa using e), if_pos e, List.map_cons, h]
    simp
  · rw [if_neg (by simpa using e), if_neg e, h]
    rfl
theorem subM_sub : ∀ (xs : List Int) (k : Nat), (subM xs k).Sublist xs
  | [], k => by simp [subM]
  | x :: xs, k => by
    rw [subM_cons]
    by_cases e : k % 2 = 1
    · rw [if_pos e]; exact (subM_sub xs _).cons_cons x
    · rw [if_neg e]; exact (subM_sub xs _).cons x
theorem subM_all {ys xs : List Int} (h : ys.Sublist xs) : ∃ k, k < 2 ^ xs.length ∧ subM xs k = ys := by
  induction h with
  | slnil => exact ⟨0, by simp, rfl⟩
  | cons x _ ih =>
    obtain ⟨k, h1, h2⟩ := ih
    refine ⟨2 * k, by rw [List.length_cons, Nat.pow_succ]; omega, ?_⟩
    rw [subM_cons, if_neg (by omega), show 2 * k / 2 = k by omega, h2]
    rfl
  | cons_cons x _ ih =>
    obtain ⟨k, h1, h2⟩ := ih
    refine ⟨2 * k + 1, by rw [List.length_cons, Nat.pow_succ]; omega, ?_⟩
    rw [subM_cons, if_pos (by omega), show (2 * k + 1) / 2 = k by omega, h2]
    rfl
theorem subM_lt (xs : List Int) (p : List Int → Bool) (y : List Int) : (∃ k, k < 2 ^ xs.length ∧ p (subM xs k) = true ∧ y = subM xs k) ↔ y.Sublist xs ∧ p y = true := by
  constructor
  · rintro ⟨k, _, h1, rfl⟩
    exact ⟨subM_sub xs k, h1⟩
  · rintro ⟨h1, h2⟩
    obtain ⟨k, h3, h4⟩ := subM_all h1
    exact ⟨k, h3, by rw [h4]; exact h2, h4.symm⟩
def idsL (r : List RecT) : List Int := r.map fun x => x.f0
theorem idsL_at {r : List RecT} {i : Nat} (h : i < r.length) : (idsL r).getD i 0 = idAt r i := by
  simp [idsL, idAt, List.getD_eq_getElem?_getD, List.getElem?_eq_getElem h]
theorem idsL_mem {r : List RecT} {n : Int} : n ∈ idsL r ↔ ∃ i, i < r.length ∧ idAt r i = n := by
  rw [← knownF_iff, knownF, List.any_eq_true, idsL, List.mem_map]
  constructor
  · rintro ⟨x, h1, h2⟩; exact ⟨x, h1, by simpa using h2⟩
  · rintro ⟨x, h1, h2⟩; exact ⟨x, h1, by simpa using h2⟩
theorem idsL_nodup : ∀ {r : List RecT}, SortedIds r → (idsL r).Nodup
  | [], _ => List.nodup_nil
  | x :: r, hs => by
    have hs2 : SortedIds r := fun j hj => by
      have := hs (j + 1) (by simpa using hj)
      simpa [idAt] using this
    rw [idsL, List.map_cons, List.nodup_cons]
    refine ⟨fun hm => ?_, idsL_nodup hs2⟩
    obtain ⟨i, hi, e⟩ := idsL_mem.1 hm
    have := sorted_inj hs (i := i + 1) (j := 0) (by simpa using hi) (by simp) (by simpa [idAt] using e)
    omega
theorem idsF_filter (r : List RecT) (p : Int → Bool) : idsF r p = (idsL r).filter p := by
  rw [idsF, idsL, List.filter_map]
  rfl
theorem selM_sub (r : List RecT) (k : Nat) : selM r k = subM (idsL r) k := by
  rw [selM, subM, show (idsL r).length = r.length by simp [idsL]]
  refine List.map_congr_left fun i hi => ?_
  exact (idsL_at (List.mem_range.1 (List.mem_filter.1 hi).1)).symm
theorem filter_sub {ys xs : List Int} (h : ys.Sublist xs) (hn : xs.Nodup) : xs.filter (fun n => decide (n ∈ ys)) = ys := by
  induction h with
  | slnil => rfl
  | cons x h ih =>
    rw [List.nodup_cons] at hn
    rw [List.filter_cons, if_neg (by simp; exact fun q => hn.1 (h.subset q))]
    exact ih hn.2
  | cons_cons x h ih =>
    rename_i l1 l2
    rw [List.nodup_cons] at hn
    rw [List.filter_cons, if_pos (by simp)]
    congr 1
    refine Eq.trans (List.filter_congr fun n hnm => ?_) (ih hn.2)
    rw [decide_eq_decide, List.mem_cons]
    exact ⟨fun q => q.resolve_left (fun e => hn.1 (e ▸ hnm)), .inr⟩
theorem sub_of_subset {ys zs xs : List Int} (hy : ys.Sublist xs) (hz : zs.Sublist xs) (hn : xs.Nodup) (h : ∀ n ∈ ys, n ∈ zs) : ys.Sublist zs := by
  rw [← filter_sub hy hn, ← filter_sub hz hn]
  have : xs.filter (fun n => decide (n ∈ ys)) = (xs.filter fun n => decide (n ∈ zs)).filter fun n => decide (n ∈ ys) := by
    rw [List.filter_filter]
    refine List.filter_congr fun n _ => ?_
    by_cases e : n ∈ ys
    · simp [e, h n e]
    · simp [e]
  rw [this]
  exact List.filter_sublist
theorem holdsF_sub {r : List RecT} (hs : SortedIds r) (G : List Int) : (holdsF r G).Sublist (idsL r) := by
  rw [← ids_holds hs G, idsF_filter]
  exact List.filter_sublist
theorem ids_sel {r : List RecT} (hs : SortedIds r) {y : List Int} (h : y.Sublist (idsL r)) : idsF r (fun n => decide (n ∈ y)) = y := by
  rw [idsF_filter, filter_sub h (idsL_nodup hs)]
theorem okI_iff {r : List RecT} (hs : SortedIds r) (H : List Int) {at_ : Nat} (ha : at_ < r.length) (k : Nat) : okI r H at_ k r.length = true ↔ idAt r at_ ∈ selM r k ∧ ∀ n ∈ selM r k, n ∈ H := by
  rw [okI, Bool.and_eq_true, ← selM_iff hs ha, List.all_eq_true]
  refine and_congr_right fun _ => ?_
  constructor
  · intro h n hn
    simp only [selM, List.mem_map, List.mem_filter] at hn
    obtain ⟨j, ⟨h1, h2⟩, rfl⟩ := hn
    have := h j h1
    simpa [h2] using this
  · intro h j hj
    cases hb : bitB k j
    · rfl
    · have := h (idAt r j) ((selM_iff hs (List.mem_range.1 hj)).2 hb)
      simpa using this
theorem okC_iff {r : List RecT} (hs : SortedIds r) (G : List Int) (k : Nat) : okC r G k r.length = true ↔ ∀ n ∈ selM r k, n ∈ G := by
  rw [okC, List.all_eq_true]
  constructor
  · intro h n hn
    simp only [selM, List.mem_map, List.mem_filter] at hn
    obtain ⟨j, ⟨h1, h2⟩, rfl⟩ := hn
    have := h j h1
    simpa [h2] using this
  · intro h j hj
    cases hb : bitB k j
    · rfl
    · have := h (idAt r j) ((selM_iff hs (List.mem_range.1 hj)).2 hb)
      simpa using this
theorem holdsF_not_gone {r : List RecT} (hs : SortedIds r) {G : List Int} {n : Int} (h : n ∈ holdsF r G) : n ∉ G := by
  obtain ⟨i, hi, rfl⟩ := holdsL_mem r [] n h
  obtain ⟨bs, h1, _⟩ := hold_at hs G i hi
  rw [decide_eq_true h] at h1
  intro q
  simp [q] at h1
/-- a set carries itself just if as many hold without the others -/
theorem carries_len {r : List RecT} (hs : SortedIds r) {y : List Int} (hy : y.Sublist (idsL r)) : carriesF r y = true ↔ (holdsF r (compl r y)).length = y.length := by
  have hKy : (holdsF r (compl r y)).Sublist y := sub_of_subset (holdsF_sub hs _) hy (idsL_nodup hs) fun n hn => by
    have h1 := holdsF_not_gone hs hn
    obtain ⟨i, hi, rfl⟩ := holdsL_mem r [] n hn
    rw [compl_mem hi] at h1
    exact Classical.byContradiction h1
  constructor
  · intro h
    rw [carriesF, List.all_eq_true] at h
    have h2 : y.Sublist (holdsF r (compl r y)) := sub_of_subset hy (holdsF_sub hs _) (idsL_nodup hs) fun n hn => by
      obtain ⟨i, hi, rfl⟩ := idsL_mem.1 (hy.subset hn)
      have := h i (List.mem_range.2 hi)
      simpa [hn] using this
    exact Nat.le_antisymm hKy.length_le h2.length_le
  · intro h
    have h2 := hKy.eq_of_length h
    rw [carriesF, List.all_eq_true]
    intro i _
    rw [h2]
    cases decide (idAt r i ∈ y) <;> rfl
def fewestF (xs : List Int) (p : List Int → Bool) : List Int := ((List.range (2 ^ xs.length)).foldl (fewStep (subM xs) p) ([], false)).1
/-- what a record rests on -/
theorem rests_eq {r : List RecT} (hs : SortedIds r) (G : List Int) {at_ : Nat} (ha : at_ < r.length) :
    fewestF (holdsF r G) (fun y => decide (idAt r at_ ∈ y) && decide ((holdsF r (compl r y)).length = y.length)) = restsBest r (holdsF r G) at_ (2 ^ r.length) := by
  have h1 := least_few (subM (holdsF r G)) (fun y => decide (idAt r at_ ∈ y) && decide ((holdsF r (compl r y)).length = y.length)) (2 ^ (holdsF r G).length)
  have hne : ∀ k, (okI r (holdsF r G) at_ k r.length && carriesF r (selM r k)) = true → idsF r (fun n => decide (n ∈ selM r k)) ≠ [] := fun k hk => by
    rw [Bool.and_eq_true, okI_iff hs _ ha] at hk
    rw [ids_sel hs (by rw [selM_sub]; exact subM_sub _ _)]
    exact List.ne_nil_of_mem hk.1.1
  have h2 := least_ref (fun k => okI r (holdsF r G) at_ k r.length && carriesF r (selM r k)) (fun k => idsF r fun n => decide (n ∈ selM r k)) hne (2 ^ r.length)
  refine h1.eq h2 fun y => (subM_lt (holdsF r G) (fun y => decide (idAt r at_ ∈ y) && decide ((holdsF r (compl r y)).length = y.length)) y).trans ?_
  have hlen : (idsL r).length = r.length := by simp [idsL]
  constructor
  · rintro ⟨h3, h4⟩
    have h5 := h3.trans (holdsF_sub hs G)
    obtain ⟨k, h6, h7⟩ := subM_all h5
    rw [hlen] at h6
    rw [Bool.and_eq_true, decide_eq_true_eq, decide_eq_true_eq] at h4
    refine ⟨k, h6, ?_, ?_⟩
    · rw [Bool.and_eq_true, okI_iff hs _ ha, selM_sub, h7]
      exact ⟨⟨h4.1, fun n hn => h3.subset hn⟩, (carries_len hs h5).2 h4.2⟩
    · rw [selM_sub, h7, ids_sel hs h5]
  · rintro ⟨k, h3, h4, rfl⟩
    have h5 : (selM r k).Sublist (idsL r) := by rw [selM_sub]; exact subM_sub _ _
    rw [Bool.and_eq_true, okI_iff hs _ ha] at h4
    rw [ids_sel hs h5]
    refine ⟨sub_of_subset h5 (holdsF_sub hs G) (idsL_nodup hs) h4.1.2, ?_⟩
    rw [Bool.and_eq_true, decide_eq_true_eq, decide_eq_true_eq]
    exact ⟨h4.1.1, (carries_len hs h5).1 h4.2⟩
/-- causes -/
theorem causes_eq {r : List RecT} (hs : SortedIds r) {G : List Int} (hG : G.Sublist (idsL r)) {at_ : Nat} (ha : at_ < r.length) (hno : idAt r at_ ∉ holdsF r G) :
    fewestF G (fun y => decide (idAt r at_ ∈ holdsF r (diffF G y))) = causesBest r G at_ (2 ^ r.length) := by
  have h1 := least_few (subM G) (fun y => decide (idAt r at_ ∈ holdsF r (diffF G y))) (2 ^ G.length)
  have hne : ∀ k, (okC r G k r.length && decide (idAt r at_ ∈ holdsF r (diffF G (selM r k)))) = true → idsF r (fun n => decide (n ∈ selM r k)) ≠ [] := fun k hk q => by
    rw [ids_sel hs (by rw [selM_sub]; exact subM_sub _ _)] at q
    rw [Bool.and_eq_true, decide_eq_true_eq, q] at hk
    have : diffF G [] = G := by simp [diffF]
    rw [this] at hk
    exact hno hk.2
  have h2 := least_ref (fun k => okC r G k r.length && decide (idAt r at_ ∈ holdsF r (diffF G (selM r k)))) (fun k => idsF r fun n => decide (n ∈ selM r k)) hne (2 ^ r.length)
  refine h1.eq h2 fun y => (subM_lt G (fun y => decide (idAt r at_ ∈ holdsF r (diffF G y))) y).trans ?_
  have hlen : (idsL r).length = r.length := by simp [idsL]
  constructor
  · rintro ⟨h3, h4⟩
    have h5 := h3.trans hG
    obtain ⟨k, h6, h7⟩ := subM_all h5
    rw [hlen] at h6
    refine ⟨k, h6, ?_, ?_⟩
    · rw [Bool.and_eq_true, okC_iff hs, selM_sub, h7]
      exact ⟨fun n hn => h3.subset hn, h4⟩
    · rw [selM_sub, h7, ids_sel hs h5]
  · rintro ⟨k, h3, h4, rfl⟩
    have h5 : (selM r k).Sublist (idsL r) := by rw [selM_sub]; exact subM_sub _ _
    rw [Bool.and_eq_true, okC_iff hs] at h4
    rw [ids_sel hs h5]
    exact ⟨sub_of_subset h5 hG (idsL_nodup hs) h4.1, h4.2⟩
end Go.Proofs.Ytcmepdamemnbkaa
namespace Go.Proofs.Ytcmepdamemnbkaa
open Go.RowKit Go.Proofs.YtcmepdamemnbkaaW.PrintWords
set_option linter.unusedVariables false
set_option linter.unusedSimpArgs false
/-- a closure over sets that answers p -/
def AsksM (P : Program) (w : World) (g : Nat) (cs : List Value) (p : List Int → Bool) : Prop :=
  ∀ (S : List Int) (M : Nat) (W : World), Below w.heap.size w W → w.heap.size ≤ M → IMap W M (setV S) → S.Nodup → Calls P g ([Value.map (some M)] ++ cs).toArray W fun e W' => e = .returned (.bool (p S)) ∧ Below W.heap.size W W'
def subK (xs : List Int) (k i : Nat) : List Int := ((List.range i).filter (bitB k)).map fun j => xs.getD j 0
theorem subK_full (xs : List Int) (k : Nat) : subK xs k xs.length = subM xs k := rfl
theorem subK_succ {xs : List Int} (hn : xs.Nodup) (k i : Nat) (hi : i < xs.length) : subK xs k (i + 1) = if bitB k i then insN (xs.getD i 0) (subK xs k i) else subK xs k i := by
  unfold subK
  rw [List.range_succ, List.filter_append, List.map_append]
  by_cases h : bitB k i = true
  · rw [if_pos h, List.filter_cons, if_pos h, insN, if_neg]
    · rfl
    · intro hm
      obtain ⟨j, hj, e⟩ := List.mem_map.1 hm
      have hj := List.mem_range.1 (List.mem_filter.1 hj).1
      have h1 : xs.getD j 0 = xs[j] := by simp [List.getD_eq_getElem?_getD, List.getElem?_eq_getElem (by omega : j < xs.length)]
      have h2 : xs.getD i 0 = xs[i] := by simp [List.getD_eq_getElem?_getD, List.getElem?_eq_getElem hi]
      rw [h1, h2] at e
      rw [List.nodup_iff_pairwise_ne, List.pairwise_iff_getElem] at hn
      exact hn j i (by omega) hi hj e
  · rw [if_neg h, List.filter_cons, if_neg h]
    simp
theorem sortF_id {xs : List Int} (h : xs.Pairwise fun a b => decide (a ≤ b) = true) : sortF xs = xs := by
  have tr : ∀ a b c : Int, decide (a ≤ b) = true → decide (b ≤ c) = true → decide (a ≤ c) = true := fun a b c h1 h2 => by simp at *; omega
  have tot : ∀ a b : Int, (decide (a ≤ b) || decide (b ≤ a)) = true := fun a b => by simp; omega
  refine List.Perm.eq_of_pairwise (le := fun a b => decide (a ≤ b) = true) (fun a b _ _ h1 h2 => ?_) (List.pairwise_mergeSort tr tot xs) h (List.mergeSort_perm xs _)
  simp only [decide_eq_true_eq] at h1 h2
  omega
theorem sortF_sub {xs : List Int} (h : xs.Pairwise fun a b => decide (a ≤ b) = true) (k : Nat) : sortF (subM xs k) = subM xs k := sortF_id (h.sublist (subM_sub xs k))
end Go.Proofs.Ytcmepdamemnbkaa
