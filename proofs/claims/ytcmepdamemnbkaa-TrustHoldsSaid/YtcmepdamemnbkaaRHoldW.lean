/- ref08.Hold: the walk. -/
import Derived.Test.YtcmepdamemnbkaaRHold
namespace Go.Proofs.Ytcmepdamemnbkaa
open Go.RowKit Go.Proofs.YtcmepdamemnbkaaW.PrintWords
set_option linter.unusedVariables false
set_option linter.unusedSimpArgs false
def inB (r : List RecT) (H : List Int) : List Bool := r.map fun x => decide (x.f0 ∈ H)
theorem inB_get {r : List RecT} {H : List Int} {k : Nat} (hk : k < r.length) : (inB r H).getD k false = decide (idAt r k ∈ H) := by
  simp [inB, idAt, List.getD_eq_getElem?_getD, List.getElem?_eq_getElem hk]
theorem standsF_at (bs : List Int) (ways : List (List Int)) (i : Nat) (hi : i < ways.length) : (ways.drop i).any (allIn bs) = (allIn bs (ways.getD i []) || (ways.drop (i + 1)).any (allIn bs)) := by
  rw [drop_at ways [] i hi, List.any_cons]
theorem allIn_at (bs : List Int) (way : List Int) (j : Nat) (hj : j < way.length) : allIn bs (way.drop j) = (decide (way.getD j 0 ∈ bs) && allIn bs (way.drop (j + 1))) := by
  rw [drop_at way 0 j hj, allIn_cons]
set_option maxHeartbeats 16000000 in
theorem hold_calls (A B : Option Addr) (c c' : Nat) (r : List RecT) (G : List Int) (w : World) (hr : Kd.C recK w A r.length r) (hg : Kd.C Kd.bool w B r.length (inB r G)) (hok : recordedF r = true) :
    Calls Try.prog 25 #[.slice A r.length c, .slice B r.length c'] w fun e w' => ∃ b o, e = .returned (.slice (some ⟨b, 0, none⟩) r.length r.length) ∧ Below w.heap.size w w' ∧ w.heap.size ≤ b ∧ w'.heap[b]? = some o ∧ cel ((inB r (holdsF r G)).map .bool) 4 o := by
  have hlen := recorded_len hok
  have hsrt := sorted_of hok
  refine x_calls (X := XNone) Try.func25 rfl rfl rfl ?_
  with_reducible repeat refine xc_seq ?_
  with_reducible refine xc_region ?_
  refine xo_asg rfl rfl rfl ?_
  with_reducible refine xo_nil ?_
  with_reducible repeat (first | refine xq_then ?_ | refine xq_blockN ?_ | refine xq_scopeN ?_)
  with_reducible repeat refine xc_seq ?_
  with_reducible refine xc_region ?_
  refine xo_mv rfl rfl rfl ?_
  refine xo_len T_ rfl rfl rfl rfl ?_
  refine xo_mks TR_ rfl rfl rfl rfl rfl rfl (by omega) (by omega) rfl (fun b5 => ?_)
  refine xo_asg rfl rfl rfl ?_
  with_reducible refine xo_nil ?_
  with_reducible repeat (first | refine xq_then ?_ | refine xq_blockN ?_ | refine xq_scopeN ?_)
  with_reducible repeat refine xc_seq ?_
  with_reducible refine xc_region ?_
  refine xo_asg rfl rfl rfl ?_
  with_reducible refine xo_nil ?_
  with_reducible repeat (first | refine xq_then ?_ | refine xq_blockN ?_ | refine xq_scopeN ?_)
  with_reducible repeat refine xc_seq ?_
  with_reducible refine xc_block ?_
  refine xc_loop (γ := Nat) (fun k => k ≤ r.length) (fun k => [(0, .slice A r.length c), (1, .slice B r.length c'), (5, .slice (some ⟨b5, 0, none⟩) r.length r.length), (6, .int .i64 (k : Int))])
    (fun k => [(b5, true, cel ((fillB (fun i => decide (idAt r i ∈ holdsF r G)) r.length k).map .bool) 4)]) (fun k => r.length - k) 0 (Nat.zero_le _) ⟨rfl, rfl, rfl, rfl, trivial⟩ (by rw [fillB_zero, List.map_replicate]; exact List.Sublist.refl _) ?_
  intro k hk1
  with_reducible repeat refine xc_seq ?_
  with_reducible refine xc_region ?_
  refine xo_mv rfl rfl rfl ?_
  refine xo_mv rfl rfl rfl ?_
  refine xo_len T_ rfl rfl rfl rfl ?_
  refine xo_lss rfl rfl rfl rfl ?_
  with_reducible refine xo_nil ?_
  with_reducible repeat (first | refine xq_then ?_ | refine xq_blockN ?_ | refine xq_scopeN ?_)
  with_reducible repeat refine xc_seq ?_
  refine xc_cond rfl (fun h => ?_) (fun h => ?_)
  · have hlt : k < r.length := by have := of_decide_eq_true h; omega
    obtain ⟨ad, A2, c2, rfl, r1, hc2, hw2⟩ := rec_at hr k hlt
    obtain ⟨bd, rfl, r2⟩ := bool_at hg k hlt
    rw [inB_get hlt] at r2
    obtain ⟨bs, hb1, hb2⟩ := hold_at hsrt G k hlt
    have hkn : ∀ way ∈ (r.getD k zRec).f2, ∀ n ∈ way, ∃ a, a < r.length ∧ atF r n = (a : Int) ∧ (decide (a < k) && decide (idAt r a ∈ holdsF r G)) = decide (n ∈ bs) := fun way hway n hn => by
      obtain ⟨a, h1, h2, h3⟩ := atF_known (recorded_known hok (getD_mem r zRec k hlt) hway hn)
      refine ⟨a, h1, h2, ?_⟩
      rw [h3, Bool.eq_iff_iff]
      simp only [Bool.and_eq_true, decide_eq_true_eq]
      rw [hb2]
      constructor
      · rintro ⟨h4, h5⟩
        exact ⟨h5, a, h4, h3⟩
      · rintro ⟨h5, i, h4, h6⟩
        have := sorted_inj hsrt (by omega : i < r.length) h1 (h6.trans h3.symm)
        exact ⟨by omega, h5⟩
    generalize r.getD k zRec = x at *
    have hn2 := hw2.2.1
    with_reducible refine xc_skip ?_
    with_reducible repeat (first | refine xq_then ?_ | refine xq_blockN ?_ | refine xq_scopeN ?_)
    with_reducible repeat refine xc_seq ?_
    with_reducible refine xc_block ?_
    with_reducible repeat refine xc_seq ?_
    with_reducible refine xc_region ?_
    refine xo_mv rfl rfl rfl ?_
    refine xo_mv rfl rfl rfl ?_
    refine xo_ia T_ rfl rfl rfl rfl rfl ⟨by omega, by omega⟩ rfl ?_
    refine xo_faR T_ rfl rfl rfl rfl rfl ?_
    refine xo_loadR0 T_ rfl rfl rfl (by first | assumption | exact RO.fld (by assumption) rfl) rfl ?_
    refine xo_len T_ rfl rfl rfl rfl ?_
    refine xo_eql rfl rfl rfl rfl ?_
    refine xo_asg rfl rfl rfl ?_
    with_reducible refine xo_nil ?_
    with_reducible repeat (first | refine xq_then ?_ | refine xq_blockN ?_ | refine xq_scopeN ?_)
    with_reducible repeat refine xc_seq ?_
    with_reducible refine xc_region ?_
    refine xo_asg rfl rfl rfl ?_
    with_reducible refine xo_nil ?_
    with_reducible repeat (first | refine xq_then ?_ | refine xq_blockN ?_ | refine xq_scopeN ?_)
    with_reducible repeat refine xc_seq ?_
    with_reducible refine xc_block ?_
    refine xc_loop (γ := Nat × Bool) (fun q => q.1 ≤ x.f2.length ∧ standsF bs x.f2 = (q.2 || (x.f2.drop q.1).any (allIn bs)))
      (fun q => [(0, .slice (some ad) r.length c), (1, .slice (some bd) r.length c'), (5, .slice (some ⟨b5, 0, none⟩) r.length r.length), (6, .int .i64 (k : Int)), (7, .bool q.2), (8, .int .i64 (q.1 : Int))])
      (fun _ => [(b5, true, cel ((fillB (fun i => decide (idAt r i ∈ holdsF r G)) r.length k).map .bool) 4)]) (fun q => x.f2.length - q.1) (0, decide ((x.f2.length : Int) = 0))
      ⟨Nat.zero_le _, by rw [standsF]; simp⟩ ⟨rfl, rfl, rfl, rfl, rfl, rfl, trivial⟩ (by repeat (first | exact List.Sublist.refl _ | apply List.Sublist.cons_cons | apply List.Sublist.cons | exact List.nil_sublist _)) ?_
    rintro ⟨i, an⟩ ⟨hi1, hst⟩
    simp only at hi1 hst ⊢
    with_reducible repeat refine xc_seq ?_
    with_reducible refine xc_region ?_
    refine xo_mv rfl rfl rfl ?_
    refine xo_mv rfl rfl rfl ?_
    refine xo_mv rfl rfl rfl ?_
    refine xo_ia T_ rfl rfl rfl rfl rfl ⟨by omega, by omega⟩ rfl ?_
    refine xo_faR T_ rfl rfl rfl rfl rfl ?_
    refine xo_loadR0 T_ rfl rfl rfl (by first | assumption | exact RO.fld (by assumption) rfl) rfl ?_
    refine xo_len T_ rfl rfl rfl rfl ?_
    refine xo_lss rfl rfl rfl rfl ?_
    with_reducible refine xo_nil ?_
    with_reducible repeat (first | refine xq_then ?_ | refine xq_blockN ?_ | refine xq_scopeN ?_)
    with_reducible repeat refine xc_seq ?_
    refine xc_cond rfl (fun h => ?_) (fun h => ?_)
    · have hil : i < x.f2.length := by have := of_decide_eq_true h; omega
      obtain ⟨ad2, A4, c4, rfl, r3, hc3, hw3⟩ := way_at hw2 i hil
      rw [standsF_at bs _ i hil] at hst
      have hkw := hkn _ (getD_mem x.f2 [] i hil)
      generalize x.f2.getD i [] = way at *
      have hn3 := hw3.2.1
      with_reducible refine xc_skip ?_
      with_reducible repeat (first | refine xq_then ?_ | refine xq_blockN ?_ | refine xq_scopeN ?_)
      with_reducible repeat refine xc_seq ?_
      with_reducible refine xc_block ?_
      with_reducible repeat refine xc_seq ?_
      with_reducible refine xc_region ?_
      refine xo_asg rfl rfl rfl ?_
      with_reducible refine xo_nil ?_
      with_reducible repeat (first | refine xq_then ?_ | refine xq_blockN ?_ | refine xq_scopeN ?_)
      with_reducible repeat refine xc_seq ?_
      with_reducible refine xc_region ?_
      refine xo_asg rfl rfl rfl ?_
      with_reducible refine xo_nil ?_
      with_reducible repeat (first | refine xq_then ?_ | refine xq_blockN ?_ | refine xq_scopeN ?_)
      with_reducible repeat refine xc_seq ?_
      with_reducible refine xc_block ?_
      refine xc_loop (γ := Nat × Bool) (fun q => q.1 ≤ way.length ∧ allIn bs way = (q.2 && allIn bs (way.drop q.1)))
        (fun q => [(0, .slice (some ad) r.length c), (1, .slice (some bd) r.length c'), (5, .slice (some ⟨b5, 0, none⟩) r.length r.length), (6, .int .i64 (k : Int)), (7, .bool an), (8, .int .i64 (i : Int)), (9, .bool q.2), (10, .int .i64 (q.1 : Int))])
        (fun _ => [(b5, true, cel ((fillB (fun i => decide (idAt r i ∈ holdsF r G)) r.length k).map .bool) 4)]) (fun q => way.length - q.1) (0, true)
        ⟨Nat.zero_le _, by simp⟩ ⟨rfl, rfl, rfl, rfl, rfl, rfl, rfl, rfl, trivial⟩ (by repeat (first | exact List.Sublist.refl _ | apply List.Sublist.cons_cons | apply List.Sublist.cons | exact List.nil_sublist _)) ?_
      rintro ⟨j, al⟩ ⟨hj1, hal⟩
      simp only at hj1 hal ⊢
      with_reducible repeat refine xc_seq ?_
      with_reducible refine xc_region ?_
      refine xo_mv rfl rfl rfl ?_
      refine xo_mv rfl rfl rfl ?_
      refine xo_mv rfl rfl rfl ?_
      refine xo_ia T_ rfl rfl rfl rfl rfl ⟨by omega, by omega⟩ rfl ?_
      refine xo_faR T_ rfl rfl rfl rfl rfl ?_
      refine xo_loadR0 T_ rfl rfl rfl (by first | assumption | exact RO.fld (by assumption) rfl) rfl ?_
      refine xo_mv rfl rfl rfl ?_
      refine xo_ia T_ rfl rfl rfl rfl rfl ⟨by omega, by omega⟩ rfl ?_
      refine xo_loadR0 T_ rfl rfl rfl (by first | assumption | exact RO.fld (by assumption) rfl) rfl ?_
      refine xo_len T_ rfl rfl rfl rfl ?_
      refine xo_lss rfl rfl rfl rfl ?_
      with_reducible refine xo_nil ?_
      with_reducible repeat (first | refine xq_then ?_ | refine xq_blockN ?_ | refine xq_scopeN ?_)
      with_reducible repeat refine xc_seq ?_
      refine xc_cond rfl (fun h => ?_) (fun h => ?_)
      · have hjl : j < way.length := by have := of_decide_eq_true h; omega
        obtain ⟨ad4, rfl, r4⟩ := int_at hw3 j hjl
        rw [allIn_at bs way j hjl] at hal
        obtain ⟨a, ha1, ha2, ha3⟩ := hkw _ (getD_mem way 0 j hjl)
        with_reducible refine xc_skip ?_
        with_reducible repeat (first | refine xq_then ?_ | refine xq_blockN ?_ | refine xq_scopeN ?_)
        with_reducible repeat refine xc_seq ?_
        with_reducible refine xc_block ?_
        cases hb : al
        · subst hb
          with_reducible repeat refine xc_seq ?_
          with_reducible refine xc_region ?_
          refine xo_mv rfl rfl rfl ?_
          refine xo_mv rfl rfl rfl ?_
          first
            | refine xo_not rfl rfl ?_
            | (refine xo_mv rfl rfl rfl ?_)
          first
            | refine xo_not rfl rfl ?_
            | (refine xo_mv rfl rfl rfl ?_)
          first
            | refine xo_not rfl rfl ?_
            | (refine xo_mv rfl rfl rfl ?_)
          first
            | refine xo_not rfl rfl ?_
            | (refine xo_mv rfl rfl rfl ?_)
          first
            | refine xo_not rfl rfl ?_
            | (refine xo_ia T_ rfl rfl rfl rfl rfl ⟨by omega, by omega⟩ rfl ?_)
          first
            | refine xo_not rfl rfl ?_
            | (refine xo_faR T_ rfl rfl rfl rfl rfl ?_)
          first
            | refine xo_not rfl rfl ?_
            | (refine xo_loadR0 T_ rfl rfl rfl (by first | assumption | exact RO.fld (by assumption) rfl) rfl ?_)
          first
            | refine xo_not rfl rfl ?_
            | (refine xo_mv rfl rfl rfl ?_)
          first
            | refine xo_not rfl rfl ?_
            | (refine xo_ia T_ rfl rfl rfl rfl rfl ⟨by omega, by omega⟩ rfl ?_)
          first
            | refine xo_not rfl rfl ?_
            | (refine xo_loadR0 T_ rfl rfl rfl (by first | assumption | exact RO.fld (by assumption) rfl) rfl ?_)
          first
            | refine xo_not rfl rfl ?_
            | (refine xo_mv rfl rfl rfl ?_)
          first
            | refine xo_not rfl rfl ?_
            | (refine xo_ia T_ rfl rfl rfl rfl rfl ⟨by omega, by omega⟩ rfl ?_)
          first
            | refine xo_not rfl rfl ?_
            | (refine xo_loadR0 T_ rfl rfl rfl (by first | assumption | exact RO.fld (by assumption) rfl) rfl ?_)
          first
            | refine xo_not rfl rfl ?_
            | (fail "NO RULE: Op.call -15")
          first
            | refine xo_not rfl rfl ?_
            | (refine xo_ia T_ rfl rfl rfl rfl rfl ⟨by omega, by omega⟩ rfl ?_)
          first
            | refine xo_not rfl rfl ?_
            | (refine xo_loadR0 T_ rfl rfl rfl (by first | assumption | exact RO.fld (by assumption) rfl) rfl ?_)
          first | refine xo_pickT rfl rfl rfl rfl ?_ | refine xo_pickF rfl rfl rfl rfl ?_
          refine xo_asg rfl rfl rfl ?_
          with_reducible refine xo_nil ?_
          with_reducible repeat (first | refine xq_then ?_ | refine xq_blockN ?_ | refine xq_scopeN ?_)
          with_reducible repeat refine xc_seq ?_
          with_reducible refine xc_region ?_
          refine xo_mv rfl rfl rfl ?_
          refine xo_add rfl rfl rfl (by omega) rfl ?_
          refine xo_asg rfl rfl rfl ?_
          with_reducible refine xo_nil ?_
          with_reducible repeat (first | refine xq_then ?_ | refine xq_blockN ?_ | refine xq_scopeN ?_)
          exact xq_again _ _ _ _ _ (j + 1, false) ⟨by omega, by rw [hal]; simp⟩ (by first | omega | (simp only; omega)) ⟨rfl, rfl, rfl, rfl, rfl, rfl, rfl, rfl, trivial⟩ (by repeat (first | exact List.Sublist.refl _ | apply List.Sublist.cons_cons | apply List.Sublist.cons | exact List.nil_sublist _))
        · subst hb
          with_reducible repeat refine xc_seq ?_
          with_reducible refine xc_region ?_
          refine xo_mv rfl rfl rfl ?_
          refine xo_mv rfl rfl rfl ?_
          first
            | refine xo_not rfl rfl ?_
            | (refine xo_mv rfl rfl rfl ?_)
          first
            | refine xo_not rfl rfl ?_
            | (refine xo_mv rfl rfl rfl ?_)
          first
            | refine xo_not rfl rfl ?_
            | (refine xo_mv rfl rfl rfl ?_)
          first
            | refine xo_not rfl rfl ?_
            | (refine xo_mv rfl rfl rfl ?_)
          first
            | refine xo_not rfl rfl ?_
            | (refine xo_ia T_ rfl rfl rfl rfl rfl ⟨by omega, by omega⟩ rfl ?_)
          first
            | refine xo_not rfl rfl ?_
            | (refine xo_faR T_ rfl rfl rfl rfl rfl ?_)
          first
            | refine xo_not rfl rfl ?_
            | (refine xo_loadR0 T_ rfl rfl rfl (by first | assumption | exact RO.fld (by assumption) rfl) rfl ?_)
          first
            | refine xo_not rfl rfl ?_
            | (refine xo_mv rfl rfl rfl ?_)
          first
            | refine xo_not rfl rfl ?_
            | (refine xo_ia T_ rfl rfl rfl rfl rfl ⟨by omega, by omega⟩ rfl ?_)
          first
            | refine xo_not rfl rfl ?_
            | (refine xo_loadR0 T_ rfl rfl rfl (by first | assumption | exact RO.fld (by assumption) rfl) rfl ?_)
          first
            | refine xo_not rfl rfl ?_
            | (refine xo_mv rfl rfl rfl ?_)
          first
            | refine xo_not rfl rfl ?_
            | (refine xo_ia T_ rfl rfl rfl rfl rfl ⟨by omega, by omega⟩ rfl ?_)
          first
            | refine xo_not rfl rfl ?_
            | (refine xo_loadR0 T_ rfl rfl rfl (by first | assumption | exact RO.fld (by assumption) rfl) rfl ?_)
          first
            | refine xo_not rfl rfl ?_
            | (refine xo_callB (v := .int .i64 (a : Int)) (fs := []) (cs := []) rfl rfl rfl at_enters rfl (fun w1 hw1 => by rw [← ha2]; exact at_calls _ _ _ _ w1 (Kd.C_below hr hw1.kx.below)) ?_)
          first
            | refine xo_not rfl rfl ?_
            | (refine xo_ia T_ rfl rfl rfl rfl rfl ⟨by omega, by omega⟩ rfl ?_)
          first
            | refine xo_not rfl rfl ?_
            | (refine xo_loadI T_ rfl rfl rfl (by repeat (first | exact List.Mem.head _ | apply List.Mem.tail | apply List.mem_append_right)) (by rw [fill_load ha1, ha3]) rfl ?_)
          first | refine xo_pickT rfl rfl rfl rfl ?_ | refine xo_pickF rfl rfl rfl rfl ?_
          refine xo_asg rfl rfl rfl ?_
          with_reducible refine xo_nil ?_
          with_reducible repeat (first | refine xq_then ?_ | refine xq_blockN ?_ | refine xq_scopeN ?_)
          with_reducible repeat refine xc_seq ?_
          with_reducible refine xc_region ?_
          refine xo_mv rfl rfl rfl ?_
          refine xo_add rfl rfl rfl (by omega) rfl ?_
          refine xo_asg rfl rfl rfl ?_
          with_reducible refine xo_nil ?_
          with_reducible repeat (first | refine xq_then ?_ | refine xq_blockN ?_ | refine xq_scopeN ?_)
          exact xq_again _ _ _ _ _ (j + 1, decide (way.getD j 0 ∈ bs)) ⟨by omega, by rw [hal, Bool.true_and]⟩ (by first | omega | (simp only; omega)) ⟨rfl, rfl, rfl, rfl, rfl, rfl, rfl, rfl, trivial⟩ (by repeat (first | exact List.Sublist.refl _ | apply List.Sublist.cons_cons | apply List.Sublist.cons | exact List.nil_sublist _))
      · have hge : ¬ j < way.length := by have := of_decide_eq_false h; omega
        rw [List.drop_of_length_le (by omega)] at hal
        have hal2 : allIn bs way = al := by rw [hal]; simp [allIn]
        with_reducible refine xc_exit ?_
        with_reducible repeat (first | refine xq_blockX ?_ | refine xq_thenE ?_ | refine xq_blockE rfl ?_ | refine xq_scopeE ?_)
        with_reducible repeat (first | refine xq_then ?_ | refine xq_blockN ?_ | refine xq_scopeN ?_)
        cases hb : an
        all_goals
          subst hb
          with_reducible repeat refine xc_seq ?_
          with_reducible refine xc_region ?_
          refine xo_mv rfl rfl rfl ?_
          refine xo_mv rfl rfl rfl ?_
          first
            | refine xo_not rfl rfl ?_
            | (refine xo_mv rfl rfl rfl ?_)
          first | refine xo_pickT rfl rfl rfl rfl ?_ | refine xo_pickF rfl rfl rfl rfl ?_
          refine xo_asg rfl rfl rfl ?_
          with_reducible refine xo_nil ?_
          with_reducible repeat (first | refine xq_then ?_ | refine xq_blockN ?_ | refine xq_scopeN ?_)
          with_reducible repeat refine xc_seq ?_
          with_reducible refine xc_region ?_
          refine xo_mv rfl rfl rfl ?_
          refine xo_add rfl rfl rfl (by omega) rfl ?_
          refine xo_asg rfl rfl rfl ?_
          with_reducible refine xo_nil ?_
          with_reducible repeat (first | refine xq_then ?_ | refine xq_blockN ?_ | refine xq_scopeN ?_)
        · exact xq_again _ _ _ _ _ (i + 1, al) ⟨by omega, by rw [hst, hal2, Bool.false_or]⟩ (by first | omega | (simp only; omega)) ⟨rfl, rfl, rfl, rfl, rfl, rfl, trivial⟩ (by repeat (first | exact List.Sublist.refl _ | apply List.Sublist.cons_cons | apply List.Sublist.cons | exact List.nil_sublist _))
        · exact xq_again _ _ _ _ _ (i + 1, true) ⟨by omega, by rw [hst]; simp⟩ (by first | omega | (simp only; omega)) ⟨rfl, rfl, rfl, rfl, rfl, rfl, trivial⟩ (by repeat (first | exact List.Sublist.refl _ | apply List.Sublist.cons_cons | apply List.Sublist.cons | exact List.nil_sublist _))
    · have hge : ¬ i < x.f2.length := by have := of_decide_eq_false h; omega
      rw [List.drop_of_length_le (by omega)] at hst
      simp only [List.any_nil, Bool.or_false] at hst
      rw [hst] at hb1
      with_reducible refine xc_exit ?_
      with_reducible repeat (first | refine xq_blockX ?_ | refine xq_thenE ?_ | refine xq_blockE rfl ?_ | refine xq_scopeE ?_)
      with_reducible repeat (first | refine xq_then ?_ | refine xq_blockN ?_ | refine xq_scopeN ?_)
      cases hb : an
      all_goals
        subst hb
        with_reducible repeat refine xc_seq ?_
        with_reducible refine xc_region ?_
        refine xo_mv rfl rfl rfl ?_
        refine xo_mv rfl rfl rfl ?_
        refine xo_mv rfl rfl rfl ?_
        refine xo_mv rfl rfl rfl ?_
        first
          | refine xo_not rfl rfl ?_
          | (refine xo_mv rfl rfl rfl ?_)
        first
          | refine xo_not rfl rfl ?_
          | (refine xo_mv rfl rfl rfl ?_)
        first
          | refine xo_not rfl rfl ?_
          | (refine xo_ia T_ rfl rfl rfl rfl rfl ⟨by omega, by omega⟩ rfl ?_)
        first
          | refine xo_not rfl rfl ?_
          | (refine xo_loadR0 T_ rfl rfl rfl (by first | assumption | exact RO.fld (by assumption) rfl) rfl ?_)
        first
          | refine xo_not rfl rfl ?_
          | (refine xo_notOp rfl rfl rfl ?_)
        first | refine xo_pickT rfl rfl rfl rfl ?_ | refine xo_pickF rfl rfl rfl rfl ?_
        refine xo_ia T_ rfl rfl rfl rfl rfl ⟨by omega, by omega⟩ rfl ?_
        refine xo_storeI T_ rfl rfl rfl rfl (by repeat (first | exact List.Mem.head _ | apply List.Mem.tail | apply List.mem_append_right)) rfl rfl (fill_lt hlt) (fill_upd (by rw [hb1]; rfl)) rfl ?_
        with_reducible refine xo_nil ?_
        with_reducible repeat (first | refine xq_then ?_ | refine xq_blockN ?_ | refine xq_scopeN ?_)
        with_reducible repeat refine xc_seq ?_
        with_reducible refine xc_region ?_
        refine xo_mv rfl rfl rfl ?_
        refine xo_add rfl rfl rfl (by omega) rfl ?_
        refine xo_asg rfl rfl rfl ?_
        with_reducible refine xo_nil ?_
        with_reducible repeat (first | refine xq_then ?_ | refine xq_blockN ?_ | refine xq_scopeN ?_)
        exact xq_again _ _ _ _ _ (k + 1) (by omega) (by omega) ⟨rfl, rfl, rfl, rfl, trivial⟩ (by repeat (first | exact List.Sublist.refl _ | apply List.Sublist.cons_cons | apply List.Sublist.cons | exact List.nil_sublist _))
  · have hge : ¬ k < r.length := by have := of_decide_eq_false h; omega
    have hkk : k = r.length := by omega
    subst hkk
    with_reducible refine xc_exit ?_
    with_reducible repeat (first | refine xq_blockX ?_ | refine xq_thenE ?_ | refine xq_blockE rfl ?_ | refine xq_scopeE ?_)
    with_reducible repeat (first | refine xq_then ?_ | refine xq_blockN ?_ | refine xq_scopeN ?_)
    with_reducible repeat refine xc_seq ?_
    with_reducible refine xc_region ?_
    refine xo_mv rfl rfl rfl ?_
    refine xo_asg rfl rfl rfl ?_
    with_reducible refine xo_nil ?_
    with_reducible repeat (first | refine xq_then ?_ | refine xq_blockN ?_ | refine xq_scopeN ?_)
    with_reducible repeat refine xc_seq ?_
    with_reducible refine xc_ret ?_
    with_reducible repeat (first | refine xq_thenR ?_ | refine xq_blockR ?_ | refine xq_scopeR ?_)
    refine xq_ret1 rfl rfl fun w' hw => ?_
    obtain ⟨o, h1, h2⟩ := hw.bl _ (List.Mem.head _)
    refine ⟨b5, o, rfl, hw.kx.below, hw.own (List.Mem.head _), h1, ?_⟩
    rw [inB, ← fill_all (fun i => decide (i ∈ holdsF r G))]
    exact h2
theorem hold_enters : ∀ args w, (callFunc 25 args).run Try.prog w = .ok (.enter 25 args) w := enters_of Try.func25 (by kernel_rfl) rfl
end Go.Proofs.Ytcmepdamemnbkaa
