/- trust.count: the moves of all batches. / trust.Pieces. / ref08.store, Moves answer what trust.count answers. -/
import Derived.Test.YtcmepdamemnbkaaDoorPkLawTrustRecall4
import Derived.Test.YtcmepdamemnbkaaDoorPkLawTrustRecall5
namespace Go.Proofs.YtcmepdamemnbkaaDoor
open Go.RowKit Go.Proofs.YtcmepdamemnbkaaDoorW.PrintWords
set_option linter.unusedVariables false
set_option linter.unusedSimpArgs false
theorem batch_at {r : List RecT} {k : Nat} {n : Int} (h : n ∈ batchesF (r.take k)) : ∃ j, j < k ∧ j < r.length ∧ idAt r j = n := by
  simp only [batchesF, List.mem_map, List.mem_filter] at h
  obtain ⟨x, ⟨h1, _⟩, rfl⟩ := h
  obtain ⟨j, hj, rfl⟩ := List.getElem_of_mem h1
  have hj2 : j < k ∧ j < r.length := by simp at hj; omega
  refine ⟨j, hj2.1, hj2.2, ?_⟩
  simp [idAt, List.getD_eq_getElem?_getD, List.getElem?_eq_getElem hj2.2]
theorem batch_new {r : List RecT} (hs : SortedIds r) {k : Nat} (hk : k < r.length) : (r.getD k zRec).f0 ∉ batchesF (r.take k) := fun h => by
  obtain ⟨j, h1, h2, h3⟩ := batch_at h
  have := sorted_inj hs h2 hk h3
  omega
theorem batches_nodup {r : List RecT} (hs : SortedIds r) : ∀ k, k ≤ r.length → (batchesF (r.take k)).Nodup
  | 0, _ => by simp [batchesF]
  | k + 1, h => by
    rw [batchesF_take (by omega)]
    split
    · refine List.nodup_append.2 ⟨batches_nodup hs k (by omega), by simp, fun a ha b hb e => ?_⟩
      rw [List.mem_singleton] at hb
      subst hb
      subst e
      exact batch_new hs (by omega) ha
    · rw [List.append_nil]
      exact batches_nodup hs k (by omega)
theorem Ents.stM {es : Array MapEntry} {c : Nat} {L : List (Int × Nat)} (h : Ents es c (stM L)) {e : MapEntry} (he : e ∈ es.toList) : ∃ p ∈ L, e.key = .int .i64 p.1 ∧ e.val = .pointer (some ⟨p.2, 0, none⟩) := by
  have h1 : kvE e ∈ es.toList.map kvE := List.mem_map_of_mem he
  rw [h.is, Go.Proofs.YtcmepdamemnbkaaDoor.stM, List.map_map] at h1
  obtain ⟨p, hp, h2⟩ := List.mem_map.1 h1
  exact ⟨p, hp, (congrArg Prod.fst h2).symm, (congrArg Prod.snd h2).symm⟩
theorem Ents.stM' {es : Array MapEntry} {c : Nat} {L : List (Int × Nat)} (h : Ents es c (Go.Proofs.YtcmepdamemnbkaaDoor.stM L)) {p : Int × Nat} (hp : p ∈ L) : ∃ e ∈ es.toList, e.key = .int .i64 p.1 := by
  have h1 : (Value.int .i64 p.1, Value.pointer (some ⟨p.2, 0, none⟩)) ∈ es.toList.map kvE := by
    rw [h.is, Go.Proofs.YtcmepdamemnbkaaDoor.stM, List.map_map]
    exact List.mem_map.2 ⟨p, hp, rfl⟩
  obtain ⟨e, he, h2⟩ := List.mem_map.1 h1
  exact ⟨e, he, congrArg Prod.fst h2⟩
theorem once_eq {es : Array MapEntry} {c : Nat} {l : List (Int × Value)} (hE : Ents es c l) {e e' : MapEntry} (he : e ∈ es.toList) (he' : e' ∈ es.toList) (h : e.born = e'.born) : e = e' := by
  obtain ⟨i, hi, rfl⟩ := List.getElem_of_mem he
  obtain ⟨j, hj, rfl⟩ := List.getElem_of_mem he'
  have ho := hE.once
  by_cases q : i = j
  · subst q; rfl
  · exfalso
    rw [List.nodup_iff_pairwise_ne, List.pairwise_iff_getElem] at ho
    by_cases hl : i < j
    · exact ho i j (by simpa using hi) (by simpa using hj) hl (by simpa using h)
    · exact ho j i (by simpa using hj) (by simpa using hi) (by omega) (by simpa using h.symm)
set_option maxHeartbeats 16000000 in
theorem count_calls (A B : Option Addr) (c c' : Nat) (r : List RecT) (m : List MovT) (w : World) (hr : Kd.C recK w A r.length r) (hm : Kd.C movK w B m.length m) (hkm : BytesM m) (hs : SortedIds r) (hlen : r.length ≤ 1000000) (hglob : GlobOK w) :
    Calls Tryd.prog 42 #[.slice A r.length c, .slice B m.length c'] w fun e w' => (countF r m = false ∧ e = .returned (.tuple #[.map none, .bool false]) ∧ Below w.heap.size w w') ∨
      (countF r m = true ∧ ∃ M L, e = .returned (.tuple #[.map (some M), .bool true]) ∧ L.map (·.1) = batchesF r ∧ WOK w XNone ((M, true, hmap (stM L)) :: stH (storeF m) L) w') := by
  have hn := hr.2.1
  have hn2 := hm.2.1
  refine x_calls (X := XNone) Tryd.func42 rfl rfl rfl ?_
  with_reducible repeat refine xc_seq ?_
  with_reducible refine xc_region ?_
  refine xo_asg rfl rfl rfl ?_
  refine xo_asg rfl rfl rfl ?_
  with_reducible refine xo_nil ?_
  with_reducible repeat (first | refine xq_then ?_ | refine xq_blockN ?_ | refine xq_scopeN ?_)
  with_reducible repeat refine xc_seq ?_
  with_reducible refine xc_region ?_
  refine xo_mkm rfl rfl (fun b16 => ?_)
  refine xo_asg rfl rfl rfl ?_
  with_reducible refine xo_nil ?_
  with_reducible repeat (first | refine xq_then ?_ | refine xq_blockN ?_ | refine xq_scopeN ?_)
  with_reducible repeat refine xc_seq ?_
  with_reducible refine xc_region ?_
  refine xo_mv rfl rfl rfl ?_
  refine xo_len T_ rfl rfl rfl rfl ?_
  refine xo_mv rfl rfl rfl ?_
  with_reducible refine xo_nil ?_
  with_reducible repeat (first | refine xq_then ?_ | refine xq_blockN ?_ | refine xq_scopeN ?_)
  with_reducible repeat refine xc_seq ?_
  with_reducible refine xc_block ?_
  refine xc_loop (γ := Nat × List (Int × Nat)) (fun q => q.1 ≤ r.length ∧ q.2.map (·.1) = batchesF (r.take q.1)) (fun q => [(0, .slice A r.length c), (1, .slice B m.length c'), (6, .map (some b16)), (17, .slice A r.length c), (18, .int .i64 (r.length : Int)), (19, .int .i64 (q.1 : Int))])
    (fun q => (b16, true, hmap (stM q.2)) :: stH (fun _ => st0) q.2) (fun q => r.length - q.1) (0, []) ⟨Nat.zero_le _, by simp [batchesF]⟩ ⟨rfl, rfl, rfl, rfl, rfl, rfl, trivial⟩ (by repeat (first | exact List.Sublist.refl _ | apply List.Sublist.cons_cons | apply List.Sublist.cons | exact List.nil_sublist _)) ?_
  rintro ⟨k, L⟩ ⟨hk1, hL⟩
  simp only at hk1 hL ⊢
  with_reducible repeat refine xc_seq ?_
  with_reducible refine xc_region ?_
  refine xo_lss rfl rfl rfl rfl ?_
  with_reducible refine xo_nil ?_
  with_reducible repeat (first | refine xq_then ?_ | refine xq_blockN ?_ | refine xq_scopeN ?_)
  with_reducible repeat refine xc_seq ?_
  refine xc_cond rfl (fun h => ?_) (fun h => ?_)
  · have hlt : k < r.length := by have := of_decide_eq_true h; omega
    obtain ⟨ad, A2, c2, rfl, r1, hc2, hw2⟩ := rec_at hr k hlt
    have hnew := batch_new hs hlt
    have htk := batchesF_take hlt
    rw [← hL] at hnew htk
    generalize r.getD k zRec = x at *
    with_reducible refine xc_skip ?_
    with_reducible repeat (first | refine xq_then ?_ | refine xq_blockN ?_ | refine xq_scopeN ?_)
    with_reducible repeat refine xc_seq ?_
    with_reducible refine xc_block ?_
    with_reducible repeat refine xc_seq ?_
    with_reducible refine xc_region ?_
    refine xo_ia T_ rfl rfl rfl rfl rfl ⟨by omega, by omega⟩ rfl ?_
    refine xo_loadRN T_ rfl rfl rfl (by assumption) rfl rfl ?_
    refine xo_alloc T_ rfl rfl rfl rfl (fun b8 => ?_)
    refine xo_store T_ rfl rfl rfl rfl (by repeat (first | exact List.Mem.head _ | apply List.Mem.tail | apply List.mem_append_right)) rfl rfl rfl rfl (by repeat (first | exact Upd.head | apply Upd.tail | apply Upd.app)) rfl ?_
    with_reducible refine xo_nil ?_
    with_reducible repeat (first | refine xq_then ?_ | refine xq_blockN ?_ | refine xq_scopeN ?_)
    with_reducible repeat refine xc_seq ?_
    with_reducible refine xc_region ?_
    refine xo_fa T_ rfl rfl rfl rfl rfl ?_
    refine xo_load0 T_ rfl rfl rfl (by repeat (first | exact List.Mem.head _ | apply List.Mem.tail | apply List.mem_append_right)) rfl rfl ?_
    refine xo_eql rfl rfl rfl rfl ?_
    with_reducible refine xo_nil ?_
    with_reducible repeat (first | refine xq_then ?_ | refine xq_blockN ?_ | refine xq_scopeN ?_)
    with_reducible repeat refine xc_seq ?_
    refine xc_cond rfl (fun h3 => ?_) (fun h3 => ?_)
    · have h3 : x.f1 = 3 := of_decide_eq_true h3
      with_reducible repeat refine xc_seq ?_
      with_reducible refine xc_region ?_
      refine xo_mv rfl rfl rfl ?_
      refine xo_fa T_ rfl rfl rfl rfl rfl ?_
      refine xo_load0 T_ rfl rfl rfl (by repeat (first | exact List.Mem.head _ | apply List.Mem.tail | apply List.mem_append_right)) rfl rfl ?_
      refine xo_build TB_ rfl rfl rfl rfl rfl ?_
      refine xo_box rfl rfl rfl rfl (fun b30 => ?_)
      refine xo_mupd T_ rfl rfl rfl rfl rfl rfl (by repeat (first | exact List.Mem.head _ | apply List.Mem.tail | apply List.mem_append_right)) (by rw [imSet_stM hnew]; exact (by repeat (first | exact Upd.head | apply Upd.tail | apply Upd.app))) rfl ?_
      with_reducible refine xo_nil ?_
      with_reducible repeat (first | refine xq_then ?_ | refine xq_blockN ?_ | refine xq_scopeN ?_)
      with_reducible repeat refine xc_seq ?_
      with_reducible refine xc_region ?_
      refine xo_add rfl rfl rfl (by omega) rfl ?_
      refine xo_mv rfl rfl rfl ?_
      with_reducible refine xo_nil ?_
      with_reducible repeat (first | refine xq_then ?_ | refine xq_blockN ?_ | refine xq_scopeN ?_)
      rw [if_pos h3] at htk
      refine xq_perm (List.perm_append_singleton _ _).symm (xq_again _ _ _ _ _ (k + 1, L ++ [(x.f0, b30)]) ⟨hlt, by simp only [List.map_append, htk]; rfl⟩ (by first | omega | (simp only; omega)) ⟨rfl, rfl, rfl, rfl, rfl, rfl, trivial⟩ ?_)
      simp only [stH, List.map_append]
      exact List.Sublist.cons _ (List.Sublist.refl _)
    · have h3 : ¬ x.f1 = 3 := of_decide_eq_false h3
      with_reducible refine xc_skip ?_
      with_reducible repeat (first | refine xq_then ?_ | refine xq_blockN ?_ | refine xq_scopeN ?_)
      with_reducible repeat refine xc_seq ?_
      with_reducible refine xc_region ?_
      refine xo_add rfl rfl rfl (by omega) rfl ?_
      refine xo_mv rfl rfl rfl ?_
      with_reducible refine xo_nil ?_
      with_reducible repeat (first | refine xq_then ?_ | refine xq_blockN ?_ | refine xq_scopeN ?_)
      rw [if_neg h3, List.append_nil] at htk
      exact xq_again _ _ _ _ _ (k + 1, L) ⟨hlt, by simp only [htk]⟩ (by first | omega | (simp only; omega)) ⟨rfl, rfl, rfl, rfl, rfl, rfl, trivial⟩ (by repeat (first | exact List.Sublist.refl _ | apply List.Sublist.cons_cons | apply List.Sublist.cons | exact List.nil_sublist _))
  have hge : ¬ k < r.length := by have := of_decide_eq_false h; omega
  rw [List.take_of_length_le (by omega)] at hL
  have hnd : (L.map (·.1)).Nodup := by
    have := batches_nodup hs r.length (Nat.le_refl _)
    rw [List.take_of_length_le (Nat.le_refl _)] at this
    rw [hL]
    exact this
  have hst0 : stH (fun _ => st0) L = stH (storeF (m.take 0)) L := rfl
  rw [hst0]
  with_reducible refine xc_exit ?_
  with_reducible repeat (first | refine xq_blockX ?_ | refine xq_thenE ?_ | refine xq_blockE rfl ?_ | refine xq_scopeE ?_)
  with_reducible repeat (first | refine xq_then ?_ | refine xq_blockN ?_ | refine xq_scopeN ?_)
  with_reducible repeat refine xc_seq ?_
  with_reducible refine xc_region ?_
  refine xo_asg rfl rfl rfl ?_
  with_reducible refine xo_nil ?_
  with_reducible repeat (first | refine xq_then ?_ | refine xq_blockN ?_ | refine xq_scopeN ?_)
  with_reducible repeat refine xc_seq ?_
  with_reducible refine xc_region ?_
  refine xo_mv rfl rfl rfl ?_
  refine xo_len T_ rfl rfl rfl rfl ?_
  refine xo_mv rfl rfl rfl ?_
  with_reducible refine xo_nil ?_
  with_reducible repeat (first | refine xq_then ?_ | refine xq_blockN ?_ | refine xq_scopeN ?_)
  with_reducible repeat refine xc_seq ?_
  with_reducible refine xc_block ?_
  refine xc_loop (γ := Nat × Int) (fun q => q.1 ≤ m.length ∧ q.1 ≤ 40 ∧ -1 ≤ q.2 ∧ q.2 ≤ 9999 ∧ movesL (batchesF r) (-1) 0 m = movesL (batchesF r) q.2 (q.1 : Int) (m.drop q.1) ∧ ∀ x ∈ m.take q.1, 1 ≤ x.f3 ∧ x.f3 ≤ 100000) (fun q => [(6, .map (some b16)), (9, .int .i64 q.2), (32, .slice B m.length c'), (33, .int .i64 (m.length : Int)), (34, .int .i64 (q.1 : Int))])
    (fun q => (b16, true, hmap (stM L)) :: stH (storeF (m.take q.1)) L) (fun q => m.length - q.1) (0, -1) ⟨Nat.zero_le _, Nat.zero_le _, by simp, by simp, rfl, by simp⟩ ⟨rfl, rfl, rfl, rfl, rfl, trivial⟩ (by repeat (first | exact List.Sublist.refl _ | apply List.Sublist.cons_cons | apply List.Sublist.cons | exact List.nil_sublist _)) ?_
  rintro ⟨k, last⟩ ⟨hk1, hk40, hl0, hl1, hmv, hpc⟩
  simp only at hk1 hk40 hl0 hl1 hmv hpc ⊢
  with_reducible repeat refine xc_seq ?_
  with_reducible refine xc_region ?_
  refine xo_lss rfl rfl rfl rfl ?_
  with_reducible refine xo_nil ?_
  with_reducible repeat (first | refine xq_then ?_ | refine xq_blockN ?_ | refine xq_scopeN ?_)
  with_reducible repeat refine xc_seq ?_
  refine xc_cond rfl (fun h => ?_) (fun h => ?_)
  · have hlt : k < m.length := by have := of_decide_eq_true h; omega
    obtain ⟨ad, rfl, r1⟩ := mov_at hm k hlt
    have hby := hkm _ (getD_mem m zMov k hlt)
    have hsucc := fun id => storeF_succ hlt id
    have htake : ∀ x ∈ m.take (k + 1), x ∈ m.take k ∨ x = m.getD k zMov := fun x hx => by
      rw [List.take_succ_eq_append_getElem hlt] at hx
      rcases List.mem_append.1 hx with hx | hx
      · exact .inl hx
      · rw [List.mem_singleton] at hx
        right
        rw [hx]
        simp [List.getD_eq_getElem?_getD, List.getElem?_eq_getElem hlt]
    have hSB := fun id => storeF_B hpc id
    have htl : ((m.take k).length : Int) ≤ 40 := by simp; omega
    rw [drop_at m zMov k hlt, movesL] at hmv
    generalize m.getD k zMov = x at *
    with_reducible refine xc_skip ?_
    with_reducible repeat (first | refine xq_then ?_ | refine xq_blockN ?_ | refine xq_scopeN ?_)
    with_reducible repeat refine xc_seq ?_
    with_reducible refine xc_block ?_
    with_reducible repeat refine xc_seq ?_
    with_reducible refine xc_region ?_
    refine xo_mv rfl rfl rfl ?_
    refine xo_ia T_ rfl rfl rfl rfl rfl ⟨by omega, by omega⟩ rfl ?_
    refine xo_loadRN T_ rfl rfl rfl (by assumption) rfl rfl ?_
    refine xo_alloc T_ rfl rfl rfl rfl (fun b11 => ?_)
    refine xo_asg rfl rfl rfl ?_
    refine xo_store T_ rfl rfl rfl rfl (by repeat (first | exact List.Mem.head _ | apply List.Mem.tail | apply List.mem_append_right)) rfl rfl rfl rfl (by repeat (first | exact Upd.head | apply Upd.tail | apply Upd.app)) rfl ?_
    with_reducible refine xo_nil ?_
    with_reducible repeat (first | refine xq_then ?_ | refine xq_blockN ?_ | refine xq_scopeN ?_)
    rcases imGet_stM (L := L) (id := x.f1) with ⟨b, hb1, hb2⟩ | ⟨hb1, hb2⟩
    rotate_left
    · with_reducible repeat refine xc_seq ?_
      with_reducible refine xc_region ?_
      refine xo_mv rfl rfl rfl ?_
      refine xo_fa T_ rfl rfl rfl rfl rfl ?_
      refine xo_load0 T_ rfl rfl rfl (by repeat (first | exact List.Mem.head _ | apply List.Mem.tail | apply List.mem_append_right)) rfl rfl ?_
      refine xo_look2 T_ rfl rfl rfl rfl rfl rfl (by repeat (first | exact List.Mem.head _ | apply List.Mem.tail | apply List.mem_append_right)) (by rw [hb2]) (by rw [hb2]) rfl ?_
      refine xo_mv rfl rfl rfl ?_
      refine xo_ext rfl rfl rfl rfl ?_
      refine xo_ext rfl rfl rfl rfl ?_
      refine xo_asg rfl rfl rfl ?_
      refine xo_asg rfl rfl rfl ?_
      with_reducible refine xo_nil ?_
      with_reducible repeat (first | refine xq_then ?_ | refine xq_blockN ?_ | refine xq_scopeN ?_)
      with_reducible repeat refine xc_seq ?_
      with_reducible refine xc_region ?_
      refine xo_mv rfl rfl rfl ?_
      refine xo_notOp rfl rfl rfl ?_
      refine xo_mv rfl rfl rfl ?_
      first
        | refine xo_not rfl rfl ?_
        | (refine xo_mv rfl rfl rfl ?_)
      first
        | refine xo_not rfl rfl ?_
        | (refine xo_add rfl rfl rfl (by omega) rfl ?_)
      first
        | refine xo_not rfl rfl ?_
        | (refine xo_fa T_ rfl rfl rfl rfl rfl ?_)
      first
        | refine xo_not rfl rfl ?_
        | (refine xo_load0 T_ rfl rfl rfl (by repeat (first | exact List.Mem.head _ | apply List.Mem.tail | apply List.mem_append_right)) rfl rfl ?_)
      first
        | refine xo_not rfl rfl ?_
        | (refine xo_bs1 T_ rfl rfl rfl rfl rfl rfl rfl rfl (fun b53 => ?_))
      first
        | refine xo_not rfl rfl ?_
        | (skip)
      first
        | refine xo_not rfl rfl ?_
        | (refine xo_notOp rfl rfl rfl ?_)
      first | refine xo_pickT rfl rfl rfl rfl ?_ | refine xo_pickF rfl rfl rfl rfl ?_
      refine xo_mv rfl rfl rfl ?_
      first
        | refine xo_not rfl rfl ?_
        | (refine xo_fa T_ rfl rfl rfl rfl rfl ?_)
      first
        | refine xo_not rfl rfl ?_
        | (refine xo_load0 T_ rfl rfl rfl (by repeat (first | exact List.Mem.head _ | apply List.Mem.tail | apply List.mem_append_right)) rfl rfl ?_)
      first
        | refine xo_not rfl rfl ?_
        | (refine xo_conv T_ rfl rfl rfl rfl (IntWalk.i64_in _ ⟨by omega, by omega⟩) rfl ?_)
      first
        | refine xo_not rfl rfl ?_
        | (refine xo_bs1 T_ rfl rfl rfl rfl rfl rfl rfl rfl (fun b61 => ?_))
      first
        | refine xo_not rfl rfl ?_
        | (skip)
      first
        | refine xo_not rfl rfl ?_
        | (refine xo_notOp rfl rfl rfl ?_)
      first | refine xo_pickT rfl rfl rfl rfl ?_ | refine xo_pickF rfl rfl rfl rfl ?_
      refine xo_mv rfl rfl rfl ?_
      first
        | refine xo_not rfl rfl ?_
        | (refine xo_fa T_ rfl rfl rfl rfl rfl ?_)
      first
        | refine xo_not rfl rfl ?_
        | (refine xo_load0 T_ rfl rfl rfl (by repeat (first | exact List.Mem.head _ | apply List.Mem.tail | apply List.mem_append_right)) rfl rfl ?_)
      first
        | refine xo_not rfl rfl ?_
        | (refine xo_bs1 T_ rfl rfl rfl rfl rfl rfl rfl rfl (fun b68 => ?_))
      first
        | refine xo_not rfl rfl ?_
        | (skip)
      first
        | refine xo_not rfl rfl ?_
        | (refine xo_notOp rfl rfl rfl ?_)
      first | refine xo_pickT rfl rfl rfl rfl ?_ | refine xo_pickF rfl rfl rfl rfl ?_
      refine xo_mv rfl rfl rfl ?_
      first
        | refine xo_not rfl rfl ?_
        | (refine xo_mv rfl rfl rfl ?_)
      first
        | refine xo_not rfl rfl ?_
        | (refine xo_geq rfl rfl rfl rfl ?_)
      first | refine xo_pickT rfl rfl rfl rfl ?_ | refine xo_pickF rfl rfl rfl rfl ?_
      with_reducible refine xo_nil ?_
      with_reducible repeat (first | refine xq_then ?_ | refine xq_blockN ?_ | refine xq_scopeN ?_)
      with_reducible repeat refine xc_seq ?_
      refine xc_condT rfl ?_
      with_reducible repeat refine xc_seq ?_
      with_reducible refine xc_region ?_
      refine xo_asg rfl rfl rfl ?_
      refine xo_asg rfl rfl rfl ?_
      with_reducible refine xo_nil ?_
      with_reducible repeat (first | refine xq_then ?_ | refine xq_blockN ?_ | refine xq_scopeN ?_)
      with_reducible repeat refine xc_seq ?_
      with_reducible refine xc_ret ?_
      with_reducible repeat (first | refine xq_thenR ?_ | refine xq_blockR ?_ | refine xq_scopeR ?_)
      refine xq_ret2 rfl rfl rfl fun w' hw => .inl ⟨?_, rfl, hw.kx.below⟩
      rw [hL] at hb1
      rw [countF, hmv, decide_eq_false hb1]
      rfl
    · have hbin : decide (x.f1 ∈ batchesF r) = true := by rw [← hL]; exact decide_eq_true (List.mem_map.2 ⟨_, hb1, rfl⟩)
      with_reducible repeat refine xc_seq ?_
      with_reducible refine xc_region ?_
      refine xo_mv rfl rfl rfl ?_
      refine xo_fa T_ rfl rfl rfl rfl rfl ?_
      refine xo_load0 T_ rfl rfl rfl (by repeat (first | exact List.Mem.head _ | apply List.Mem.tail | apply List.mem_append_right)) rfl rfl ?_
      refine xo_look2 T_ rfl rfl rfl rfl rfl rfl (by repeat (first | exact List.Mem.head _ | apply List.Mem.tail | apply List.mem_append_right)) (by rw [hb2]) (by rw [hb2]) rfl ?_
      refine xo_mv rfl rfl rfl ?_
      refine xo_ext rfl rfl rfl rfl ?_
      refine xo_ext rfl rfl rfl rfl ?_
      refine xo_asg rfl rfl rfl ?_
      refine xo_asg rfl rfl rfl ?_
      with_reducible refine xo_nil ?_
      with_reducible repeat (first | refine xq_then ?_ | refine xq_blockN ?_ | refine xq_scopeN ?_)
      cases h1 : !inF (last + 1) 9999 x.f0 <;> cases h2 : !inF 1 5 x.f2 <;> cases h3 : !inF 1 100000 x.f3 <;> cases h4 : decide (40 ≤ (k : Int))
      all_goals
        with_reducible repeat refine xc_seq ?_
        with_reducible refine xc_region ?_
        refine xo_mv rfl rfl rfl ?_
        refine xo_notOp rfl rfl rfl ?_
        refine xo_mv rfl rfl rfl ?_
        first
          | refine xo_not rfl rfl ?_
          | (refine xo_mv rfl rfl rfl ?_)
        first
          | refine xo_not rfl rfl ?_
          | (refine xo_add rfl rfl rfl (by omega) rfl ?_)
        first
          | refine xo_not rfl rfl ?_
          | (refine xo_fa T_ rfl rfl rfl rfl rfl ?_)
        first
          | refine xo_not rfl rfl ?_
          | (refine xo_load0 T_ rfl rfl rfl (by repeat (first | exact List.Mem.head _ | apply List.Mem.tail | apply List.mem_append_right)) rfl rfl ?_)
        first
          | refine xo_not rfl rfl ?_
          | (refine xo_bs1 T_ rfl rfl rfl rfl rfl rfl rfl rfl (fun b53 => ?_))
        first
          | refine xo_not rfl rfl ?_
          | (refine xo_callB (fs := []) (cs := []) rfl rfl rfl in_enters rfl (fun w1 hw1 => in_calls hw1 _ _ _ (by repeat (first | exact List.Mem.head _ | apply List.Mem.tail | apply List.mem_append_right))) ?_)
        first
          | refine xo_not rfl rfl ?_
          | (refine xo_notOp rfl rfl rfl ?_)
        refine xo_as (i := 55) rfl (congrArg Value.bool h1) ?_
        first | refine xo_pickT rfl rfl rfl rfl ?_ | refine xo_pickF rfl rfl rfl rfl ?_
        refine xo_mv rfl rfl rfl ?_
        first
          | refine xo_not rfl rfl ?_
          | (refine xo_fa T_ rfl rfl rfl rfl rfl ?_)
        first
          | refine xo_not rfl rfl ?_
          | (refine xo_load0 T_ rfl rfl rfl (by repeat (first | exact List.Mem.head _ | apply List.Mem.tail | apply List.mem_append_right)) rfl rfl ?_)
        first
          | refine xo_not rfl rfl ?_
          | (refine xo_conv T_ rfl rfl rfl rfl (IntWalk.i64_in _ ⟨by omega, by omega⟩) rfl ?_)
        first
          | refine xo_not rfl rfl ?_
          | (refine xo_bs1 T_ rfl rfl rfl rfl rfl rfl rfl rfl (fun b61 => ?_))
        first
          | refine xo_not rfl rfl ?_
          | (refine xo_callB (fs := []) (cs := []) rfl rfl rfl in_enters rfl (fun w1 hw1 => in_calls hw1 _ _ _ (by repeat (first | exact List.Mem.head _ | apply List.Mem.tail | apply List.mem_append_right))) ?_)
        first
          | refine xo_not rfl rfl ?_
          | (refine xo_notOp rfl rfl rfl ?_)
        first | refine xo_as (i := 63) rfl (congrArg Value.bool h2) ?_ | skip
        first | refine xo_pickT rfl rfl rfl rfl ?_ | refine xo_pickF rfl rfl rfl rfl ?_
        refine xo_mv rfl rfl rfl ?_
        first
          | refine xo_not rfl rfl ?_
          | (refine xo_fa T_ rfl rfl rfl rfl rfl ?_)
        first
          | refine xo_not rfl rfl ?_
          | (refine xo_load0 T_ rfl rfl rfl (by repeat (first | exact List.Mem.head _ | apply List.Mem.tail | apply List.mem_append_right)) rfl rfl ?_)
        first
          | refine xo_not rfl rfl ?_
          | (refine xo_bs1 T_ rfl rfl rfl rfl rfl rfl rfl rfl (fun b68 => ?_))
        first
          | refine xo_not rfl rfl ?_
          | (refine xo_callB (fs := []) (cs := []) rfl rfl rfl in_enters rfl (fun w1 hw1 => in_calls hw1 _ _ _ (by repeat (first | exact List.Mem.head _ | apply List.Mem.tail | apply List.mem_append_right))) ?_)
        first
          | refine xo_not rfl rfl ?_
          | (refine xo_notOp rfl rfl rfl ?_)
        first | refine xo_as (i := 70) rfl (congrArg Value.bool h3) ?_ | skip
        first | refine xo_pickT rfl rfl rfl rfl ?_ | refine xo_pickF rfl rfl rfl rfl ?_
        refine xo_mv rfl rfl rfl ?_
        first
          | refine xo_not rfl rfl ?_
          | (refine xo_mv rfl rfl rfl ?_)
        first
          | refine xo_not rfl rfl ?_
          | (refine xo_geq rfl rfl rfl rfl ?_)
        first | refine xo_pickT rfl rfl rfl rfl ?_ | refine xo_pickF rfl rfl rfl rfl ?_
        first | refine xo_as (i := 75) rfl (congrArg Value.bool h4) ?_ | skip
        with_reducible refine xo_nil ?_
        with_reducible repeat (first | refine xq_then ?_ | refine xq_blockN ?_ | refine xq_scopeN ?_)
        with_reducible repeat refine xc_seq ?_
        first | refine xc_condT rfl ?_ | refine xc_condF rfl ?_
      rotate_left
      iterate 15
        · with_reducible repeat refine xc_seq ?_
          with_reducible refine xc_region ?_
          refine xo_asg rfl rfl rfl ?_
          refine xo_asg rfl rfl rfl ?_
          with_reducible refine xo_nil ?_
          with_reducible repeat (first | refine xq_then ?_ | refine xq_blockN ?_ | refine xq_scopeN ?_)
          with_reducible repeat refine xc_seq ?_
          with_reducible refine xc_ret ?_
          with_reducible repeat (first | refine xq_thenR ?_ | refine xq_blockR ?_ | refine xq_scopeR ?_)
          refine xq_ret2 rfl rfl rfl fun w' hw => .inl ⟨?_, rfl, hw.kx.below⟩
          simp only [Bool.not_eq_true', Bool.not_eq_false'] at h1 h2 h3
          rw [countF, hmv]
          simp only [hbin, h1, h2, h3, h4, Bool.false_and, Bool.and_false, Bool.not_true, Bool.not_false, Bool.true_and, Bool.and_true]
      simp only [Bool.not_eq_true', Bool.not_eq_false'] at h1 h2 h3
      have hx0 : last + 1 ≤ x.f0 ∧ x.f0 ≤ 9999 := by simpa [inF] using h1
      have hx2 : 1 ≤ x.f2 ∧ x.f2 ≤ 5 := by simpa [inF] using h2
      have hx3 : 1 ≤ x.f3 ∧ x.f3 ≤ 100000 := by simpa [inF] using h3
      have hk4 : ¬ 40 ≤ (k : Int) := of_decide_eq_false h4
      have hrg : RO w XNone ((⟨0, 0, none⟩ : Addr).add (x.f2.toNat * szN 0)) [.func (.func (addsId x.f2)) #[] #[]] := ro1 (by
        rw [Addr.add_lit, show 0 + x.f2.toNat * szN 0 = x.f2.toNat by simp [szN]]
        exact hglob x.f2 hx2.1 hx2.2)
      have hupd := stH_upd (f := storeF (m.take k)) (f' := storeF (m.take (k + 1))) hb1 hnd (fun id hne => by rw [hsucc, if_neg (fun e => hne e.symm)])
      rw [hsucc x.f1, if_pos rfl] at hupd
      with_reducible refine xc_skip ?_
      with_reducible repeat (first | refine xq_then ?_ | refine xq_blockN ?_ | refine xq_scopeN ?_)
      refine xc_sub (η' := (b11, true, cel (movV x) 54) :: (b16, true, hmap (stM L)) :: stH (storeF (m.take k)) L) (by repeat (first | exact List.Sublist.refl _ | apply List.Sublist.cons_cons | apply List.Sublist.cons | exact List.nil_sublist _)) ?_
      with_reducible repeat refine xc_seq ?_
      apply xc_drawE (fun g => []) (fun (η0 : Hp) g => match g with | [] => (η0) | a0 :: _ => ((b11, true, cel (movV x) 54) :: (b16, true, hmap (stM L)) :: stH (storeF (m.take (k + 1))) L)) (fun _ => True) [0, 0, 0, 0, 0, 0, 0, 1] [7] [[3, 4, 6]] (by trivial)
      apply SameLen.cons
      apply SameLen.cons
      apply SameLen.cons
      apply SameLen.cons
      apply SameLen.cons
      apply SameLen.cons
      apply SameLen.cons
      apply SameLen.cons
      exact SameLen.nil
      rotate_left 8
      case hH0 => rfl
      case hmix => exact T_.mixed
      case hbind => rfl
      case hdeps => rfl
      case hdist => rfl
      case hfresh => rfl
      case hE => rfl
      case hEn => decide
      · refine DrawE.pure 0 1 rfl (.inl rfl) (fun L g hg hd => Nat.zero_le _) (fun g hlo hhi hF τ => ?_) ?_
        · rcases g with _ | ⟨a0, _ | ⟨a1, g⟩⟩
          all_goals first
            | (exfalso; simp only [List.length_cons, List.length_nil] at hlo hhi; omega)
            | (refine ⟨_, rfl, ?_⟩
               refine xo_fa T_ rfl rfl rfl rfl rfl ?_
               exact xo_fin rfl)
        refine DrawE.pure 0 1 rfl (.inl rfl) (fun L g hg hd => Nat.zero_le _) (fun g hlo hhi hF τ => ?_) ?_
        · rcases g with _ | ⟨a0, _ | ⟨a1, g⟩⟩
          all_goals first
            | (exfalso; simp only [List.length_cons, List.length_nil] at hlo hhi; omega)
            | (refine ⟨_, rfl, ?_⟩
               refine xo_load0 T_ rfl rfl rfl (by repeat (first | exact List.Mem.head _ | apply List.Mem.tail | apply List.mem_append_right)) rfl rfl ?_
               exact xo_fin rfl)
        refine DrawE.pure 0 1 rfl (.inl rfl) (fun L g hg hd => Nat.zero_le _) (fun g hlo hhi hF τ => ?_) ?_
        · rcases g with _ | ⟨a0, _ | ⟨a1, g⟩⟩
          all_goals first
            | (exfalso; simp only [List.length_cons, List.length_nil] at hlo hhi; omega)
            | (refine ⟨_, rfl, ?_⟩
               refine xo_iaA T_ rfl Tryd.underlying107 rfl rfl rfl ⟨by omega, by omega⟩ rfl ?_
               exact xo_fin rfl)
        refine DrawE.pure 0 0 rfl (.inr (by decide)) (fun L g hg hd => Nat.zero_le _) (fun g hlo hhi hF τ => ?_) ?_
        · rcases g with _ | ⟨a0, _ | ⟨a1, g⟩⟩
          all_goals first
            | (exfalso; simp only [List.length_cons, List.length_nil] at hlo hhi; omega)
            | (refine ⟨_, rfl, ?_⟩
               refine xo_loadR0 T_ rfl rfl rfl hrg rfl ?_
               exact xo_fin rfl)
        refine DrawE.pure 0 0 rfl (.inr (by decide)) (fun L g hg hd => Nat.zero_le _) (fun g hlo hhi hF τ => ?_) ?_
        · rcases g with _ | ⟨a0, _ | ⟨a1, g⟩⟩
          all_goals first
            | (exfalso; simp only [List.length_cons, List.length_nil] at hlo hhi; omega)
            | (refine ⟨_, rfl, ?_⟩
               refine xo_mv rfl rfl rfl ?_
               exact xo_fin rfl)
        refine DrawE.pure 0 1 rfl (.inl rfl) (fun L g hg hd => Nat.zero_le _) (fun g hlo hhi hF τ => ?_) ?_
        · rcases g with _ | ⟨a0, _ | ⟨a1, g⟩⟩
          all_goals first
            | (exfalso; simp only [List.length_cons, List.length_nil] at hlo hhi; omega)
            | (refine ⟨_, rfl, ?_⟩
               refine xo_fa T_ rfl rfl rfl rfl rfl ?_
               exact xo_fin rfl)
        refine DrawE.pure 0 0 rfl (.inr (by decide)) (fun L g hg hd => Nat.zero_le _) (fun g hlo hhi hF τ => ?_) ?_
        · rcases g with _ | ⟨a0, _ | ⟨a1, g⟩⟩
          all_goals first
            | (exfalso; simp only [List.length_cons, List.length_nil] at hlo hhi; omega)
            | (refine ⟨_, rfl, ?_⟩
               refine xo_load0 T_ rfl rfl rfl (by repeat (first | exact List.Mem.head _ | apply List.Mem.tail | apply List.mem_append_right)) rfl rfl ?_
               exact xo_fin rfl)
        refine DrawE.eff 0 rfl (by decide) rfl (fun j hj => hj) (fun j g a hj => ?_) (fun L g hg hd => Nat.zero_le _) (fun g hgl hF τ => ?_) ?_
        · rcases j with _ | _ | _ | _ | _ | _ | _ | _ | j
          all_goals first | rfl | (rcases g with _ | ⟨a0, _ | ⟨a1, g⟩⟩ <;> first | rfl | exact absurd hj (by decide) | exact absurd hj (by simp [List.getD]))
        · obtain rfl : g = [] := by
            rcases g with _ | ⟨a0, g⟩ <;> first | rfl | (exfalso; simp only [List.length_cons, List.length_nil] at hgl; omega)
          refine xo_call (fs := []) (cs := []) rfl rfl rfl (adds_enters hx2) rfl (fun w1 hw1 => ?_)
          obtain ⟨o1, ho1, ho2⟩ := hw1.bl _ (List.Mem.tail _ (List.Mem.tail _ (stH_mem hb1)))
          refine (adds_calls hx2 _ _ x.f3 (hSB x.f1) (by omega) ⟨by omega, by omega⟩ b w1 o1 ho1 ho2).mono ?_
          rintro e w2 ⟨rfl, hk3, o3, ho3, ho4⟩
          refine ⟨_, _, rfl, hw1.updK (Upd.tail (Upd.tail hupd)) hk3 ho3 ho4, ?_⟩
          exact xo_finE gv0 rfl trivial
        exact DrawE.nil
      intro g hgl hF
      obtain ⟨a0, rfl⟩ : ∃ a0, g = [a0] := by
        rcases g with _ | ⟨a0, _ | ⟨a1, g⟩⟩ <;> first | exact ⟨_, rfl⟩ | (exfalso; simp only [List.length_cons, List.length_nil] at hgl; omega)
      with_reducible repeat (first | refine xq_then ?_ | refine xq_blockN ?_ | refine xq_scopeN ?_)
      with_reducible repeat refine xc_seq ?_
      with_reducible refine xc_region ?_
      refine xo_fa T_ rfl rfl rfl rfl rfl ?_
      refine xo_load0 T_ rfl rfl rfl (by repeat (first | exact List.Mem.head _ | apply List.Mem.tail | apply List.mem_append_right)) rfl rfl ?_
      refine xo_asg rfl rfl rfl ?_
      with_reducible refine xo_nil ?_
      with_reducible repeat (first | refine xq_then ?_ | refine xq_blockN ?_ | refine xq_scopeN ?_)
      with_reducible repeat refine xc_seq ?_
      with_reducible refine xc_region ?_
      refine xo_add rfl rfl rfl (by omega) rfl ?_
      refine xo_mv rfl rfl rfl ?_
      with_reducible refine xo_nil ?_
      with_reducible repeat (first | refine xq_then ?_ | refine xq_blockN ?_ | refine xq_scopeN ?_)
      refine xq_again _ _ _ _ _ (k + 1, x.f0) ⟨hlt, by simp only; omega, by simp only; omega, hx0.2, ?_, fun y hy => ?_⟩ (by first | omega | (simp only; omega)) ⟨rfl, rfl, rfl, rfl, rfl, trivial⟩ (by repeat (first | exact List.Sublist.refl _ | apply List.Sublist.cons_cons | apply List.Sublist.cons | exact List.nil_sublist _))
      · rw [hmv]
        simp only [hbin, h1, h2, h3, h4, Bool.not_false, Bool.true_and, Bool.and_self]
        rfl
      · rcases htake y hy with hy | rfl
        · exact hpc y hy
        · exact hx3
  have hge : ¬ k < m.length := by have := of_decide_eq_false h; omega
  rw [List.take_of_length_le (by omega)]
  rw [List.drop_of_length_le (by omega), movesL] at hmv
  with_reducible refine xc_exit ?_
  with_reducible repeat (first | refine xq_blockX ?_ | refine xq_thenE ?_ | refine xq_blockE rfl ?_ | refine xq_scopeE ?_)
  with_reducible repeat (first | refine xq_then ?_ | refine xq_blockN ?_ | refine xq_scopeN ?_)
  with_reducible repeat refine xc_seq ?_
  with_reducible refine xc_region ?_
  refine xo_mv rfl rfl rfl ?_
  refine xo_rangeM T_ rfl rfl rfl (by repeat (first | exact List.Mem.head _ | apply List.Mem.tail | apply List.mem_append_right)) (fun es c => Rep.head) rfl (fun b88 es cl hE => ?_)
  with_reducible refine xo_nil ?_
  with_reducible repeat (first | refine xq_then ?_ | refine xq_blockN ?_ | refine xq_scopeN ?_)
  with_reducible repeat refine xc_seq ?_
  with_reducible refine xc_block ?_
  refine xc_loop (γ := Array Nat) (fun q => ∀ e ∈ es.toList, q.contains e.born = true → ∀ id, e.key = .int .i64 id → okS (storeF m id) = true) (fun q => [(6, .map (some b16)), (88, .pointer (some ⟨b88, 0, none⟩))])
    (fun q => (b88, true, hiter b16 cl q) :: (b16, true, hmapE es cl) :: stH (storeF m) L) (fun q => unseen es q) #[] (fun e _ h => by simp at h) ⟨rfl, rfl, trivial⟩ (by repeat (first | exact List.Sublist.refl _ | apply List.Sublist.cons_cons | apply List.Sublist.cons | exact List.nil_sublist _)) ?_
  intro seen hseen
  with_reducible repeat refine xc_seq ?_
  with_reducible refine xc_region ?_
  refine xo_next rfl rfl (by repeat (first | exact List.Mem.head _ | apply List.Mem.tail | apply List.mem_append_right)) (by repeat (first | exact List.Mem.head _ | apply List.Mem.tail | apply List.mem_append_right)) hE (fun seen' => Upd.head) rfl (fun hall => ?_) (fun e he hns => ?_)
  · have hcnt : countF r m = true := by
      rw [countF, hmv, Bool.true_and, List.all_eq_true]
      intro id hid
      rw [← hL] at hid
      obtain ⟨p, hp, rfl⟩ := List.mem_map.1 hid
      obtain ⟨e, he, hke⟩ := hE.stM' hp
      exact hseen e he (hall e he) _ hke
    refine xo_ext rfl rfl rfl rfl ?_
    with_reducible refine xo_nil ?_
    with_reducible repeat (first | refine xq_then ?_ | refine xq_blockN ?_ | refine xq_scopeN ?_)
    with_reducible repeat refine xc_seq ?_
    refine xc_condF rfl ?_
    with_reducible refine xc_exit ?_
    with_reducible repeat (first | refine xq_blockX ?_ | refine xq_thenE ?_ | refine xq_blockE rfl ?_ | refine xq_scopeE ?_)
    refine xq_rep (b := b16) (by repeat (first | exact List.Mem.head _ | apply List.Mem.tail | apply List.mem_append_right)) (fun o h => hmapE_hmap hE h) (Rep.tail Rep.head) ?_
    with_reducible repeat (first | refine xq_then ?_ | refine xq_blockN ?_ | refine xq_scopeN ?_)
    with_reducible repeat refine xc_seq ?_
    with_reducible refine xc_region ?_
    refine xo_mv rfl rfl rfl ?_
    refine xo_asg rfl rfl rfl ?_
    refine xo_asg rfl rfl rfl ?_
    with_reducible refine xo_nil ?_
    with_reducible repeat (first | refine xq_then ?_ | refine xq_blockN ?_ | refine xq_scopeN ?_)
    with_reducible repeat refine xc_seq ?_
    with_reducible refine xc_ret ?_
    with_reducible repeat (first | refine xq_thenR ?_ | refine xq_blockR ?_ | refine xq_scopeR ?_)
    exact xq_ret2 rfl rfl rfl fun w' hw => .inr ⟨hcnt, b16, L, rfl, hL, hw.sub (List.sublist_cons_self _ _)⟩
  · obtain ⟨p, hp, hk1, hk2⟩ := hE.stM he
    obtain ⟨id, b⟩ := p
    simp only at hk1 hk2
    have hbad : okS (storeF m id) = false → countF r m = false := fun h => by
      rw [countF, Bool.and_eq_false_iff]
      right
      rw [List.all_eq_false]
      exact ⟨id, by rw [← hL]; exact List.mem_map.2 ⟨_, hp, rfl⟩, by rw [h]; simp⟩
    rw [hk1, hk2]
    refine xo_ext rfl rfl rfl rfl ?_
    with_reducible refine xo_nil ?_
    with_reducible repeat (first | refine xq_then ?_ | refine xq_blockN ?_ | refine xq_scopeN ?_)
    with_reducible repeat refine xc_seq ?_
    refine xc_condT rfl ?_
    with_reducible refine xc_skip ?_
    with_reducible repeat (first | refine xq_then ?_ | refine xq_blockN ?_ | refine xq_scopeN ?_)
    with_reducible repeat refine xc_seq ?_
    with_reducible refine xc_block ?_
    with_reducible repeat refine xc_seq ?_
    with_reducible refine xc_region ?_
    refine xo_entry rfl rfl (by repeat (first | exact List.Mem.head _ | apply List.Mem.tail | apply List.mem_append_right)) (by repeat (first | exact List.Mem.head _ | apply List.Mem.tail | apply List.mem_append_right)) hE he rfl ?_
    rw [hk1, hk2]
    refine xo_ext rfl rfl rfl rfl ?_
    refine xo_asg rfl rfl rfl ?_
    with_reducible refine xo_nil ?_
    with_reducible repeat (first | refine xq_then ?_ | refine xq_blockN ?_ | refine xq_scopeN ?_)
    cases h5 : decide ((storeF m id).d < (storeF m id).b) <;> cases h6 : decide ((storeF m id).l < 0)
    all_goals
      with_reducible repeat refine xc_seq ?_
      apply xc_drawN
      · exact T_.mixed
      · rfl
      · rfl
      · rfl
      · rfl
      · apply DrawOps.cons
        · intro τ
          refine xo_mv rfl rfl rfl ?_
          exact xo_fin rfl
        apply DrawOps.cons
        · intro τ
          refine xo_nilck rfl rfl rfl ?_
          exact xo_fin rfl
        apply DrawOps.cons
        · intro τ
          refine xo_fa T_ rfl rfl rfl rfl rfl ?_
          exact xo_fin rfl
        apply DrawOps.cons
        · intro τ
          refine xo_load0 T_ rfl rfl rfl (List.Mem.tail _ (List.Mem.tail _ (stH_mem hp))) rfl rfl ?_
          exact xo_fin rfl
        apply DrawOps.cons
        · intro τ
          refine xo_mv rfl rfl rfl ?_
          exact xo_fin rfl
        apply DrawOps.cons
        · intro τ
          refine xo_nilck rfl rfl rfl ?_
          exact xo_fin rfl
        apply DrawOps.cons
        · intro τ
          refine xo_fa T_ rfl rfl rfl rfl rfl ?_
          exact xo_fin rfl
        apply DrawOps.cons
        · intro τ
          refine xo_load0 T_ rfl rfl rfl (List.Mem.tail _ (List.Mem.tail _ (stH_mem hp))) rfl rfl ?_
          exact xo_fin rfl
        apply DrawOps.cons
        · intro τ
          refine xo_gtr rfl rfl rfl rfl ?_
          first
            | exact xo_fin (congrArg Value.bool h5)
            | exact xo_fin rfl
        apply DrawOps.cons
        · intro τ
          refine xo_mv rfl rfl rfl ?_
          exact xo_fin rfl
        apply DrawOps.cons
        · intro τ
          first
            | refine xo_not rfl rfl ?_
            | (refine xo_mv rfl rfl rfl ?_)
          exact xo_fin rfl
        apply DrawOps.cons
        · intro τ
          first
            | refine xo_not rfl rfl ?_
            | (refine xo_nilck rfl rfl rfl ?_)
          exact xo_fin rfl
        apply DrawOps.cons
        · intro τ
          first
            | refine xo_not rfl rfl ?_
            | (refine xo_fa T_ rfl rfl rfl rfl rfl ?_)
          exact xo_fin rfl
        apply DrawOps.cons
        · intro τ
          first
            | refine xo_not rfl rfl ?_
            | (refine xo_load0 T_ rfl rfl rfl (List.Mem.tail _ (List.Mem.tail _ (stH_mem hp))) rfl rfl ?_)
          exact xo_fin rfl
        apply DrawOps.cons
        · intro τ
          first
            | refine xo_not rfl rfl ?_
            | (refine xo_lss rfl rfl rfl rfl ?_)
          first
            | exact xo_fin (congrArg Value.bool h6)
            | exact xo_fin rfl
        apply DrawOps.cons
        · intro τ
          first | refine xo_pickT rfl rfl rfl rfl ?_ | refine xo_pickF rfl rfl rfl rfl ?_
          exact xo_fin rfl
        exact DrawOps.nil
      · rfl
      with_reducible repeat (first | refine xq_then ?_ | refine xq_blockN ?_ | refine xq_scopeN ?_)
      with_reducible repeat refine xc_seq ?_
      first | refine xc_condT rfl ?_ | refine xc_condF rfl ?_
    rotate_left
    iterate 3
      · with_reducible repeat refine xc_seq ?_
        with_reducible refine xc_region ?_
        refine xo_asg rfl rfl rfl ?_
        refine xo_asg rfl rfl rfl ?_
        with_reducible refine xo_nil ?_
        with_reducible repeat (first | refine xq_then ?_ | refine xq_blockN ?_ | refine xq_scopeN ?_)
        with_reducible repeat refine xc_seq ?_
        with_reducible refine xc_ret ?_
        with_reducible repeat (first | refine xq_thenR ?_ | refine xq_blockR ?_ | refine xq_scopeR ?_)
        exact xq_ret2 rfl rfl rfl fun w' hw => .inl ⟨hbad (by rw [okS, h5, h6]; rfl), rfl, hw.kx.below⟩
    with_reducible refine xc_skip ?_
    with_reducible repeat (first | refine xq_then ?_ | refine xq_blockN ?_ | refine xq_scopeN ?_)
    refine xq_again _ _ _ _ _ (seen.push e.born) (fun e' he' hc id' hid' => ?_) (unseen_lt he hns) ⟨rfl, rfl, trivial⟩ (by repeat (first | exact List.Sublist.refl _ | apply List.Sublist.cons_cons | apply List.Sublist.cons | exact List.nil_sublist _))
    simp at hc
    rcases hc with hc | hc
    · exact hseen e' he' (by simpa using hc) id' hid'
    · have hee : e' = e := once_eq hE he' he hc
      subst hee
      rw [hk1] at hid'
      injection hid' with _ hid'
      subst hid'
      rw [okS, h5, h6]
      rfl
theorem count_enters : ∀ args w, (callFunc 42 args).run Tryd.prog w = .ok (.enter 42 args) w := enters_of Tryd.func42 (by kernel_rfl) rfl
end Go.Proofs.YtcmepdamemnbkaaDoor
namespace Go.Proofs.YtcmepdamemnbkaaDoor
open Go.RowKit Go.Proofs.YtcmepdamemnbkaaDoorW.PrintWords
set_option linter.unusedVariables false
set_option linter.unusedSimpArgs false
theorem eqSt (d : Nat) (w : World) (x y : StT) :
    (Op.equalIn (d + 2) 27 (.agg (stV x).toArray) (.agg (stV y).toArray)).run Tryd.prog w = .ok (x.a == y.a && (x.b == y.b && (x.c == y.c && (x.d == y.d && (x.e == y.e && (x.l == y.l)))))) w := by
  refine eqA_of Tryd.underlying27 (by kernel_rfl) ?_
  refine eqf_cons (by rfl) (by go_simp; rfl) (by go_simp; rfl) (by go_simp) ?_
  refine eqf_cons (by rfl) (by go_simp; rfl) (by go_simp; rfl) (by go_simp) ?_
  refine eqf_cons (by rfl) (by go_simp; rfl) (by go_simp; rfl) (by go_simp) ?_
  refine eqf_cons (by rfl) (by go_simp; rfl) (by go_simp; rfl) (by go_simp) ?_
  refine eqf_cons (by rfl) (by go_simp; rfl) (by go_simp; rfl) (by go_simp) ?_
  exact eqf_last (by rfl) (by go_simp; rfl) (by go_simp; rfl) (by go_simp)
def stEq (x y : StT) : Bool := x.a == y.a && (x.b == y.b && (x.c == y.c && (x.d == y.d && (x.e == y.e && (x.l == y.l)))))
theorem stEq_iff {x y : StT} : stEq x y = true ↔ x = y := by
  unfold stEq
  simp only [Bool.and_eq_true, beq_iff_eq]
  constructor
  · rintro ⟨h1, h2, h3, h4, h5, h6⟩
    obtain ⟨a, b, c, d, e, l⟩ := x
    obtain ⟨a', b', c', d', e', l'⟩ := y
    simp only at h1 h2 h3 h4 h5 h6
    subst h1 h2 h3 h4 h5 h6
    rfl
  · rintro rfl
    exact ⟨rfl, rfl, rfl, rfl, rfl, rfl⟩
section
variable {ro : Option Nat} {n N : Nat} {ds : List Deferred} {w0 : World} {X : Nat → Prop} {Q : Exit → Act → World → Prop} {σ : Slots} {η : Hp} {ops rest : List Oper} {d : Option Tmp} {ty pos aft} {g : Option (Nat × Bool)}
attribute [local go_sem high] eqSt
theorem xo_neqSt {u v : Operand} {t' : TypeId} {a b : StT} (hg : gS ops σ g = some true) (hx : ev σ u = some (.agg (stV a).toArray)) (hy : ev σ v = some (.agg (stV b).toArray)) (hN : dstOK N d = true)
    (h : XO Tryd.prog ro n N ds w0 X Q ops (putS d (.bool (!stEq a b)) σ) η rest) : XO Tryd.prog ro n N ds w0 X Q ops σ η (⟨d, .binOp .neq 27 u v t', ty, pos, aft, g⟩ :: rest) :=
  xo_val _ rfl hg hN (fun _ w ha hw => by
    simp only [execOp, ha.ev hx, ha.ev hy, stEq]
    go_simp) h
theorem xo_eqlSt {u v : Operand} {t' : TypeId} {a b : StT} (hg : gS ops σ g = some true) (hx : ev σ u = some (.agg (stV a).toArray)) (hy : ev σ v = some (.agg (stV b).toArray)) (hN : dstOK N d = true)
    (h : XO Tryd.prog ro n N ds w0 X Q ops (putS d (.bool (stEq a b)) σ) η rest) : XO Tryd.prog ro n N ds w0 X Q ops σ η (⟨d, .binOp .eql 27 u v t', ty, pos, aft, g⟩ :: rest) :=
  xo_val _ rfl hg hN (fun _ w ha hw => by
    simp only [execOp, ha.ev hx, ha.ev hy, stEq]
    go_simp) h
end
/-- what Pieces answers -/
def addS (s t : StT) : StT := ⟨s.a + t.a, s.b + t.b, s.c + t.c, s.d + t.d, s.e + t.e, s.l + t.l⟩
theorem addS_zero (s : StT) : addS s st0 = s := by simp [addS, st0]
def wayP (id : Int) (come : List Int) (way : List Int) : Bool := way.any fun n => decide (n = id) || decide (n ∈ come)
def fromF (id : Int) (come : List Int) (x : RecT) : Bool := decide (x.f0 = id) || x.f2.any (wayP id come)
def piecesL (m : List MovT) (id : Int) : List Int → StT → List RecT → StT
  | _, s, [] => s
  | come, s, x :: r => if fromF id come x && decide (x.f1 = 3) then piecesL m id (insN x.f0 come) (addS s (storeF m x.f0)) r else piecesL m id come s r
def piecesC (r : List RecT) (m : List MovT) (id : Int) : Int := if recordedF r then (if countF r m then (if knownF r id then 0 else 6) else 82) else 80
def piecesR (r : List RecT) (m : List MovT) (id : Int) : StT := if piecesC r m id = 0 then piecesL m id [] st0 r else st0
theorem StB.add {s t : StT} {B C : Int} (h : StB s B) (k : StB t C) : StB (addS s t) (B + C) := by
  unfold StB addS at *
  simp only at *
  omega
theorem batch_mem {r : List RecT} (hs : SortedIds r) {k : Nat} (hk : k < r.length) : decide ((r.getD k zRec).f0 ∈ batchesF r) = decide ((r.getD k zRec).f1 = 3) := by
  rw [decide_eq_decide]
  constructor
  · intro h
    simp only [batchesF, List.mem_map, List.mem_filter, decide_eq_true_eq] at h
    obtain ⟨x, ⟨h1, h2⟩, h3⟩ := h
    obtain ⟨j, hj, rfl⟩ := List.getElem_of_mem h1
    have e1 : r[j] = r.getD j zRec := by simp [List.getD_eq_getElem?_getD, List.getElem?_eq_getElem hj]
    have := sorted_inj hs hj hk (by rw [idAt, idAt, ← e1]; exact h3)
    subst this
    rw [← e1]
    exact h2
  · intro h
    simp only [batchesF, List.mem_map, List.mem_filter, decide_eq_true_eq]
    exact ⟨_, ⟨getD_mem r zRec k hk, h⟩, rfl⟩
theorem count_B {r : List RecT} {m : List MovT} (h : countF r m = true) (id : Int) : StB (storeF m id) 4000000 := by
  rw [countF, Bool.and_eq_true] at h
  have h1 := movesL_mem m _ _ h.1
  have h2 := movesL_len m _ _ h.1
  refine (storeF_B (fun x hx => (h1 x hx).2.2) id).mono ?_
  rcases h2 with h2 | rfl
  · omega
  · simp
theorem pieces1_calls (x id : Int) (S : List Int) (b5 b10 M : Nat) (w : World) (h5 : w.cell? ⟨b5, 0, none⟩ = some (.int .i64 id)) (h10 : w.cell? ⟨b10, 0, none⟩ = some (.map (some M))) (hM : IMap w M (setV S)) :
    Calls Tryd.prog 45 #[.int .i64 x, .pointer (some ⟨b5, 0, none⟩), .pointer (some ⟨b10, 0, none⟩)] w fun e w' => e = .returned (.bool (decide (x = id) || decide (x ∈ S))) ∧ Below w.heap.size w w' := by
  have r1 := ro1 h5
  have r2 := ro1 h10
  refine x_callsH (X := XNone) Tryd.func45 rfl rfl rfl (WOK.startM XNone hM) ?_
  with_reducible repeat refine xc_seq ?_
  with_reducible refine xc_region ?_
  refine xo_asg rfl rfl rfl ?_
  with_reducible refine xo_nil ?_
  with_reducible repeat (first | refine xq_then ?_ | refine xq_blockN ?_ | refine xq_scopeN ?_)
  cases h : decide (x = id)
  all_goals
    with_reducible repeat refine xc_seq ?_
    with_reducible refine xc_region ?_
    refine xo_mv rfl rfl rfl ?_
    refine xo_loadR0 T_ rfl rfl rfl (by first | assumption | exact RO.fld (by assumption) rfl) rfl ?_
    refine xo_eql rfl rfl rfl rfl ?_
    refine xo_mv rfl rfl rfl ?_
    refine xo_as (i := 8) rfl (congrArg Value.bool h) ?_
    first
      | refine xo_not rfl rfl ?_
      | (refine xo_loadR0 T_ rfl rfl rfl (by first | assumption | exact RO.fld (by assumption) rfl) rfl ?_)
    first
      | refine xo_not rfl rfl ?_
      | (refine xo_mv rfl rfl rfl ?_)
    first
      | refine xo_not rfl rfl ?_
      | (refine xo_sget T_ rfl rfl rfl rfl rfl rfl (by repeat (first | exact List.Mem.head _ | apply List.Mem.tail | apply List.mem_append_right)) rfl ?_)
    first | refine xo_pickT rfl rfl rfl rfl ?_ | refine xo_pickF rfl rfl rfl rfl ?_
    refine xo_asg rfl rfl rfl ?_
    with_reducible refine xo_nil ?_
    with_reducible repeat (first | refine xq_then ?_ | refine xq_blockN ?_ | refine xq_scopeN ?_)
    with_reducible repeat refine xc_seq ?_
    with_reducible refine xc_ret ?_
    with_reducible repeat (first | refine xq_thenR ?_ | refine xq_blockR ?_ | refine xq_scopeR ?_)
    exact xq_ret1 rfl rfl fun w' hw => ⟨rfl, hw.kx.below⟩
theorem pieces1_enters : ∀ args w, (callFunc 45 args).run Tryd.prog w = .ok (.enter 45 args) w := enters_of Tryd.func45 (by kernel_rfl) rfl
theorem containsFn_enters : ∀ args w, (callFunc 44 args).run Tryd.prog w = .ok (.enter 44 args) w := enters_of Tryd.func44 (by kernel_rfl) rfl
theorem take_any {α : Type} (p : α → Bool) (xs : List α) (z : α) (k : Nat) (hk : k < xs.length) : (xs.take (k + 1)).any p = ((xs.take k).any p || p (xs.getD k z)) := by
  rw [List.take_succ_eq_append_getElem hk, List.any_append]
  simp [List.getD_eq_getElem?_getD, List.getElem?_eq_getElem hk]
set_option maxHeartbeats 16000000 in
theorem pieces_calls (A B : Option Addr) (c c' : Nat) (r : List RecT) (m : List MovT) (id : Int) (w : World) (hr : Kd.C recK w A r.length r) (hm : Kd.C movK w B m.length m) (hk : Bytes r) (hkm : BytesM m) (hglob : GlobOK w) :
    Calls Tryd.prog 13 #[.slice A r.length c, .slice B m.length c', .int .i64 id] w fun e w' => e = .returned (.tuple #[.agg (stV (piecesR r m id)).toArray, .int .i64 (piecesC r m id)]) ∧ Below w.heap.size w w' := by
  have hn := hr.2.1
  refine x_calls (X := XNone) Tryd.func13 rfl rfl rfl ?_
  with_reducible repeat refine xc_seq ?_
  with_reducible refine xc_region ?_
  refine xo_box rfl rfl rfl rfl (fun b5 => ?_)
  refine xo_alloc T_ rfl rfl rfl rfl (fun b6 => ?_)
  refine xo_asg rfl rfl rfl ?_
  with_reducible refine xo_nil ?_
  with_reducible repeat (first | refine xq_then ?_ | refine xq_blockN ?_ | refine xq_scopeN ?_)
  with_reducible repeat refine xc_seq ?_
  with_reducible refine xc_region ?_
  refine xo_mv rfl rfl rfl ?_
  refine xo_callB (fs := []) (cs := []) rfl rfl rfl recorded_enters rfl (fun w1 hw1 => recorded_calls A c r w1 (Kd.C_below hr hw1.kx.below) hk) ?_
  refine xo_notOp rfl rfl rfl ?_
  with_reducible refine xo_nil ?_
  with_reducible repeat (first | refine xq_then ?_ | refine xq_blockN ?_ | refine xq_scopeN ?_)
  with_reducible repeat refine xc_seq ?_
  refine xc_cond rfl (fun hrec => ?_) (fun hrec => ?_)
  · simp only [Bool.not_eq_true'] at hrec
    have e1 : piecesC r m id = 80 := by rw [piecesC, hrec]; rfl
    have e2 : piecesR r m id = st0 := by rw [piecesR, e1]; rfl
    with_reducible repeat refine xc_seq ?_
    with_reducible refine xc_region ?_
    refine xo_build TB_ rfl rfl rfl rfl rfl ?_
    refine xo_store T_ rfl rfl rfl rfl (by repeat (first | exact List.Mem.head _ | apply List.Mem.tail | apply List.mem_append_right)) rfl rfl rfl rfl (by repeat (first | exact Upd.head | apply Upd.tail | apply Upd.app)) rfl ?_
    refine xo_asg rfl rfl rfl ?_
    with_reducible refine xo_nil ?_
    with_reducible repeat (first | refine xq_then ?_ | refine xq_blockN ?_ | refine xq_scopeN ?_)
    with_reducible repeat refine xc_seq ?_
    with_reducible refine xc_ret ?_
    with_reducible repeat (first | refine xq_thenR ?_ | refine xq_blockR ?_ | refine xq_scopeR ?_)
    exact xq_retC1 T_ rfl rfl rfl rfl (by repeat (first | exact List.Mem.head _ | apply List.Mem.tail | apply List.mem_append_right)) rfl fun w' hw => ⟨by rw [e1, e2]; rfl, hw.kx.below⟩
  simp only [Bool.not_eq_false'] at hrec
  have hs := sorted_of hrec
  have hlen := recorded_len hrec
  with_reducible refine xc_skip ?_
  with_reducible repeat (first | refine xq_then ?_ | refine xq_blockN ?_ | refine xq_scopeN ?_)
  cases hcf : countF r m
  · have e1 : piecesC r m id = 82 := by rw [piecesC, hrec, hcf]; rfl
    have e2 : piecesR r m id = st0 := by rw [piecesR, e1]; rfl
    with_reducible repeat refine xc_seq ?_
    with_reducible refine xc_region ?_
    refine xo_mv rfl rfl rfl ?_
    refine xo_mv rfl rfl rfl ?_
    refine xo_call (fs := []) (cs := []) rfl rfl rfl count_enters rfl (fun w1 hw1 => (count_calls A B c c' r m w1 (Kd.C_below hr hw1.kx.below) (Kd.C_below hm hw1.kx.below) hkm hs (by omega) (hglob.below hw1.kx.below)).mono ?_)
    rintro e w2 (⟨_, rfl, hb⟩ | ⟨h, _⟩)
    rotate_left
    · rw [hcf] at h; cases h
    refine ⟨_, _, rfl, hw1.below hb, ?_⟩
    clear hb hw1
    refine xo_mv rfl rfl rfl ?_
    refine xo_ext rfl rfl rfl rfl ?_
    refine xo_ext rfl rfl rfl rfl ?_
    refine xo_asg rfl rfl rfl ?_
    refine xo_asg rfl rfl rfl ?_
    with_reducible refine xo_nil ?_
    with_reducible repeat (first | refine xq_then ?_ | refine xq_blockN ?_ | refine xq_scopeN ?_)
    with_reducible repeat refine xc_seq ?_
    with_reducible refine xc_block ?_
    with_reducible repeat refine xc_seq ?_
    with_reducible refine xc_region ?_
    refine xo_mv rfl rfl rfl ?_
    refine xo_notOp rfl rfl rfl ?_
    refine xo_asg rfl rfl rfl ?_
    with_reducible refine xo_nil ?_
    with_reducible repeat (first | refine xq_then ?_ | refine xq_blockN ?_ | refine xq_scopeN ?_)
    with_reducible repeat refine xc_seq ?_
    refine xc_condT rfl ?_
    with_reducible repeat refine xc_seq ?_
    with_reducible refine xc_region ?_
    refine xo_build TB_ rfl rfl rfl rfl rfl ?_
    refine xo_store T_ rfl rfl rfl rfl (by repeat (first | exact List.Mem.head _ | apply List.Mem.tail | apply List.mem_append_right)) rfl rfl rfl rfl (by repeat (first | exact Upd.head | apply Upd.tail | apply Upd.app)) rfl ?_
    refine xo_asg rfl rfl rfl ?_
    with_reducible refine xo_nil ?_
    with_reducible repeat (first | refine xq_then ?_ | refine xq_blockN ?_ | refine xq_scopeN ?_)
    with_reducible repeat refine xc_seq ?_
    with_reducible refine xc_ret ?_
    with_reducible repeat (first | refine xq_thenR ?_ | refine xq_blockR ?_ | refine xq_scopeR ?_)
    exact xq_retC1 T_ rfl rfl rfl rfl (by repeat (first | exact List.Mem.head _ | apply List.Mem.tail | apply List.mem_append_right)) rfl fun w' hw => ⟨by rw [e1, e2]; rfl, hw.kx.below⟩
  with_reducible repeat refine xc_seq ?_
  with_reducible refine xc_region ?_
  refine xo_mv rfl rfl rfl ?_
  refine xo_mv rfl rfl rfl ?_
  refine xo_call (fs := []) (cs := []) rfl rfl rfl count_enters rfl (fun w1 hw1 => (count_calls A B c c' r m w1 (Kd.C_below hr hw1.kx.below) (Kd.C_below hm hw1.kx.below) hkm hs (by omega) (hglob.below hw1.kx.below)).mono ?_)
  rintro e w2 (⟨h, _⟩ | ⟨_, M, L, rfl, hL, hz⟩)
  · rw [hcf] at h; cases h
  refine ⟨_, _, rfl, hw1.join hz (fun e he => (List.mem_cons.1 he).elim (fun q => by rw [q]) (stH_true e)), ?_⟩
  clear hz hw1
  refine xo_mv rfl rfl rfl ?_
  refine xo_ext rfl rfl rfl rfl ?_
  refine xo_ext rfl rfl rfl rfl ?_
  refine xo_asg rfl rfl rfl ?_
  refine xo_asg rfl rfl rfl ?_
  with_reducible refine xo_nil ?_
  with_reducible repeat (first | refine xq_then ?_ | refine xq_blockN ?_ | refine xq_scopeN ?_)
  with_reducible repeat refine xc_seq ?_
  with_reducible refine xc_block ?_
  with_reducible repeat refine xc_seq ?_
  with_reducible refine xc_region ?_
  refine xo_mv rfl rfl rfl ?_
  refine xo_notOp rfl rfl rfl ?_
  refine xo_asg rfl rfl rfl ?_
  with_reducible refine xo_nil ?_
  with_reducible repeat (first | refine xq_then ?_ | refine xq_blockN ?_ | refine xq_scopeN ?_)
  with_reducible repeat refine xc_seq ?_
  refine xc_condF rfl ?_
  with_reducible repeat refine xc_seq ?_
  with_reducible refine xc_region ?_
  refine xo_mv rfl rfl rfl ?_
  refine xo_load0 T_ rfl rfl rfl (by repeat (first | exact List.Mem.head _ | exact List.mem_append_left _ (List.Mem.head _) | apply List.mem_append_right | apply List.Mem.tail)) rfl rfl ?_
  refine xo_callB (fs := []) (cs := []) rfl rfl rfl known_enters rfl (fun w1 hw1 => known_calls A c r _ w1 (Kd.C_below hr hw1.kx.below)) ?_
  refine xo_notOp rfl rfl rfl ?_
  refine xo_asg rfl rfl rfl ?_
  with_reducible refine xo_nil ?_
  with_reducible repeat (first | refine xq_then ?_ | refine xq_blockN ?_ | refine xq_scopeN ?_)
  with_reducible repeat refine xc_seq ?_
  refine xc_cond rfl (fun hkn => ?_) (fun hkn => ?_)
  · simp only [Bool.not_eq_true'] at hkn
    have e1 : piecesC r m id = 6 := by rw [piecesC, hrec, hcf, hkn]; rfl
    have e2 : piecesR r m id = st0 := by rw [piecesR, e1]; rfl
    with_reducible repeat refine xc_seq ?_
    with_reducible refine xc_region ?_
    refine xo_build TB_ rfl rfl rfl rfl rfl ?_
    refine xo_store T_ rfl rfl rfl rfl (by repeat (first | exact List.Mem.head _ | exact List.mem_append_left _ (List.Mem.head _) | apply List.mem_append_right | apply List.Mem.tail)) rfl rfl rfl rfl (Upd.tail (Upd.app (by repeat (first | exact Upd.head | apply Upd.tail | apply Upd.app)) _)) rfl ?_
    refine xo_asg rfl rfl rfl ?_
    with_reducible refine xo_nil ?_
    with_reducible repeat (first | refine xq_then ?_ | refine xq_blockN ?_ | refine xq_scopeN ?_)
    with_reducible repeat refine xc_seq ?_
    with_reducible refine xc_ret ?_
    with_reducible repeat (first | refine xq_thenR ?_ | refine xq_blockR ?_ | refine xq_scopeR ?_)
    exact xq_retC1 T_ rfl rfl rfl rfl (by repeat (first | exact List.Mem.head _ | exact List.mem_append_left _ (List.Mem.head _) | apply List.mem_append_right | apply List.Mem.tail)) rfl fun w' hw => ⟨by rw [e1, e2]; rfl, hw.kx.below⟩
  simp only [Bool.not_eq_false'] at hkn
  have e1 : piecesC r m id = 0 := by rw [piecesC, hrec, hcf, hkn]; rfl
  have e2 : piecesR r m id = piecesL m id [] st0 r := by rw [piecesR, if_pos e1]
  with_reducible refine xc_skip ?_
  with_reducible repeat (first | refine xq_then ?_ | refine xq_blockN ?_ | refine xq_scopeN ?_)
  with_reducible repeat refine xc_seq ?_
  with_reducible refine xc_region ?_
  refine xo_mkm rfl rfl (fun b39 => ?_)
  refine xo_alloc T_ rfl rfl rfl rfl (fun b10 => ?_)
  refine xo_store T_ rfl rfl rfl rfl (by repeat (first | exact List.Mem.head _ | apply List.Mem.tail | apply List.mem_append_right)) rfl rfl rfl rfl (by repeat (first | exact Upd.head | apply Upd.tail | apply Upd.app)) rfl ?_
  with_reducible refine xo_nil ?_
  with_reducible repeat (first | refine xq_then ?_ | refine xq_blockN ?_ | refine xq_scopeN ?_)
  with_reducible repeat refine xc_seq ?_
  with_reducible refine xc_region ?_
  refine xo_alloc T_ rfl rfl rfl rfl (fun b11 => ?_)
  with_reducible refine xo_nil ?_
  with_reducible repeat (first | refine xq_then ?_ | refine xq_blockN ?_ | refine xq_scopeN ?_)
  with_reducible repeat refine xc_seq ?_
  with_reducible refine xc_region ?_
  refine xo_mv rfl rfl rfl ?_
  refine xo_len T_ rfl rfl rfl rfl ?_
  refine xo_mv rfl rfl rfl ?_
  with_reducible refine xo_nil ?_
  with_reducible repeat (first | refine xq_then ?_ | refine xq_blockN ?_ | refine xq_scopeN ?_)
  with_reducible repeat refine xc_seq ?_
  with_reducible refine xc_block ?_
  refine xc_loop (γ := Nat × List Int × StT) (fun q => q.1 ≤ r.length ∧ StB q.2.2 (4000000 * (q.1 : Int)) ∧ piecesL m id [] st0 r = piecesL m id q.2.1 q.2.2 (r.drop q.1)) (fun q => [(0, .slice A r.length c), (5, .pointer (some ⟨b5, 0, none⟩)), (6, .pointer (some ⟨b6, 0, none⟩)), (8, .map (some M)), (10, .pointer (some ⟨b10, 0, none⟩)), (11, .pointer (some ⟨b11, 0, none⟩)), (40, .slice A r.length c), (41, .int .i64 (r.length : Int)), (42, .int .i64 (q.1 : Int))])
    (fun q => (b11, true, cel (stV q.2.2) 27) :: (b10, true, cel [.map (some b39)] 62) :: (b39, true, hmap (setV q.2.1)) :: (M, true, hmap (stM L)) :: (stH (storeF m) L ++ [(b6, true, cel (stV st0) 27), (b5, true, cel [.int .i64 id] 3)])) (fun q => r.length - q.1) (0, [], st0) ⟨Nat.zero_le _, by unfold StB st0; simp, rfl⟩ ⟨rfl, rfl, rfl, rfl, rfl, rfl, rfl, rfl, rfl, trivial⟩ (by repeat (first | exact List.Sublist.refl _ | apply List.Sublist.cons_cons | apply List.Sublist.cons | exact List.nil_sublist _)) ?_
  rintro ⟨k, come, sum⟩ ⟨hk1, hsB, hpl⟩
  simp only at hk1 hsB hpl ⊢
  with_reducible repeat refine xc_seq ?_
  with_reducible refine xc_region ?_
  refine xo_lss rfl rfl rfl rfl ?_
  with_reducible refine xo_nil ?_
  with_reducible repeat (first | refine xq_then ?_ | refine xq_blockN ?_ | refine xq_scopeN ?_)
  with_reducible repeat refine xc_seq ?_
  refine xc_cond rfl (fun h => ?_) (fun h => ?_)
  · have hlt : k < r.length := by have := of_decide_eq_true h; omega
    obtain ⟨ad, A2, c2, rfl, r1, hc2, hw2⟩ := rec_at hr k hlt
    have hbm := batch_mem hs hlt
    have hn3 := hw2.2.1
    rw [drop_at r zRec k hlt, piecesL] at hpl
    generalize r.getD k zRec = x at *
    with_reducible refine xc_skip ?_
    with_reducible repeat (first | refine xq_then ?_ | refine xq_blockN ?_ | refine xq_scopeN ?_)
    with_reducible repeat refine xc_seq ?_
    with_reducible refine xc_block ?_
    with_reducible repeat refine xc_seq ?_
    with_reducible refine xc_region ?_
    refine xo_ia T_ rfl rfl rfl rfl rfl ⟨by omega, by omega⟩ rfl ?_
    refine xo_loadRN T_ rfl rfl rfl (by assumption) rfl rfl ?_
    refine xo_alloc T_ rfl rfl rfl rfl (fun b13 => ?_)
    refine xo_store T_ rfl rfl rfl rfl (by repeat (first | exact List.Mem.head _ | apply List.Mem.tail | apply List.mem_append_right)) rfl rfl rfl rfl (by repeat (first | exact Upd.head | apply Upd.tail | apply Upd.app)) rfl ?_
    with_reducible refine xo_nil ?_
    with_reducible repeat (first | refine xq_then ?_ | refine xq_blockN ?_ | refine xq_scopeN ?_)
    with_reducible repeat refine xc_seq ?_
    with_reducible refine xc_region ?_
    refine xo_fa T_ rfl rfl rfl rfl rfl ?_
    refine xo_load0 T_ rfl rfl rfl (by repeat (first | exact List.Mem.head _ | apply List.Mem.tail | apply List.mem_append_right)) rfl rfl ?_
    refine xo_load0 T_ rfl rfl rfl (by repeat (first | exact List.Mem.head _ | exact List.mem_append_left _ (List.Mem.head _) | apply List.mem_append_right | apply List.Mem.tail)) rfl rfl ?_
    refine xo_eql rfl rfl rfl rfl ?_
    refine xo_asg rfl rfl rfl ?_
    with_reducible refine xo_nil ?_
    with_reducible repeat (first | refine xq_then ?_ | refine xq_blockN ?_ | refine xq_scopeN ?_)
    with_reducible repeat refine xc_seq ?_
    with_reducible refine xc_region ?_
    refine xo_fa T_ rfl rfl rfl rfl rfl ?_
    refine xo_load0 T_ rfl rfl rfl (by repeat (first | exact List.Mem.head _ | apply List.Mem.tail | apply List.mem_append_right)) rfl rfl ?_
    refine xo_len T_ rfl rfl rfl rfl ?_
    refine xo_mv rfl rfl rfl ?_
    with_reducible refine xo_nil ?_
    with_reducible repeat (first | refine xq_then ?_ | refine xq_blockN ?_ | refine xq_scopeN ?_)
    with_reducible repeat refine xc_seq ?_
    with_reducible refine xc_block ?_
    refine xc_loop (γ := Nat × Bool) (fun q => q.1 ≤ x.f2.length ∧ q.2 = (decide (x.f0 = id) || (x.f2.take q.1).any (wayP id come))) (fun q => [(0, .slice (some ad) r.length c), (5, .pointer (some ⟨b5, 0, none⟩)), (6, .pointer (some ⟨b6, 0, none⟩)), (8, .map (some M)), (10, .pointer (some ⟨b10, 0, none⟩)), (11, .pointer (some ⟨b11, 0, none⟩)), (40, .slice (some ad) r.length c), (41, .int .i64 (r.length : Int)), (42, .int .i64 (k : Int)), (13, .pointer (some ⟨b13, 0, none⟩)), (14, .bool q.2), (51, .slice A2 x.f2.length c2), (52, .int .i64 (x.f2.length : Int)), (53, .int .i64 (q.1 : Int))])
      (fun _ => (b13, true, cel (recV x A2 c2) 50) :: (b11, true, cel (stV sum) 27) :: (b10, true, cel [.map (some b39)] 62) :: (b39, true, hmap (setV come)) :: (M, true, hmap (stM L)) :: (stH (storeF m) L ++ [(b6, true, cel (stV st0) 27), (b5, true, cel [.int .i64 id] 3)])) (fun q => x.f2.length - q.1) (0, decide (x.f0 = id)) ⟨Nat.zero_le _, by simp⟩ ⟨rfl, rfl, rfl, rfl, rfl, rfl, rfl, rfl, rfl, rfl, rfl, rfl, rfl, rfl, trivial⟩ (List.Sublist.refl _) ?_
    rintro ⟨j, from_⟩ ⟨hj1, hfr⟩
    simp only at hj1 hfr ⊢
    with_reducible repeat refine xc_seq ?_
    with_reducible refine xc_region ?_
    refine xo_lss rfl rfl rfl rfl ?_
    with_reducible refine xo_nil ?_
    with_reducible repeat (first | refine xq_then ?_ | refine xq_blockN ?_ | refine xq_scopeN ?_)
    with_reducible repeat refine xc_seq ?_
    refine xc_cond rfl (fun h => ?_) (fun h => ?_)
    · have hjl : j < x.f2.length := by have := of_decide_eq_true h; omega
      obtain ⟨ad3, A3, c3, rfl, r3, hc3, hw3⟩ := way_at hw2 j hjl
      have hta := take_any (wayP id come) x.f2 [] j hjl
      generalize x.f2.getD j [] = way at *
      with_reducible refine xc_skip ?_
      with_reducible repeat (first | refine xq_then ?_ | refine xq_blockN ?_ | refine xq_scopeN ?_)
      with_reducible repeat refine xc_seq ?_
      with_reducible refine xc_block ?_
      with_reducible repeat refine xc_seq ?_
      with_reducible refine xc_region ?_
      refine xo_ia T_ rfl rfl rfl rfl rfl ⟨by omega, by omega⟩ rfl ?_
      refine xo_loadR0 T_ rfl rfl rfl (by first | assumption | exact RO.fld (by assumption) rfl) rfl ?_
      refine xo_asg rfl rfl rfl ?_
      with_reducible refine xo_nil ?_
      with_reducible repeat (first | refine xq_then ?_ | refine xq_blockN ?_ | refine xq_scopeN ?_)
      cases from_
      all_goals
        with_reducible repeat refine xc_seq ?_
        with_reducible refine xc_region ?_
        refine xo_mv rfl rfl rfl ?_
        refine xo_mv rfl rfl rfl ?_
        first
          | refine xo_not rfl rfl ?_
          | (refine xo_mv rfl rfl rfl ?_)
        first
          | refine xo_not rfl rfl ?_
          | (refine xo_mkf rfl rfl rfl rfl ?_)
        first
          | refine xo_not rfl rfl ?_
          | (refine xo_callB (fs := []) (cs := []) rfl rfl rfl containsFn_enters rfl (fun w1 hw1 => containsFunc_calls (fun n => decide (n = id) || decide (n ∈ come)) 45 [.pointer (some ⟨b5, 0, none⟩), .pointer (some ⟨b10, 0, none⟩)] pieces1_enters A3 c3 way w1 (Kd.C_below hw3 hw1.kx.below) (fun y W hW => pieces1_calls y id come b5 b10 b39 W ((hw1.below hW).cell (by repeat (first | exact List.Mem.head _ | exact List.mem_append_left _ (List.Mem.head _) | apply List.mem_append_right | apply List.Mem.tail)) 0 rfl) ((hw1.below hW).cell (by repeat (first | exact List.Mem.head _ | apply List.Mem.tail | apply List.mem_append_right)) 0 rfl) ((hw1.below hW).imap (wr := true) (by repeat (first | exact List.Mem.head _ | apply List.Mem.tail | apply List.mem_append_right))))) ?_)
        first | refine xo_pickT rfl rfl rfl rfl ?_ | refine xo_pickF rfl rfl rfl rfl ?_
        refine xo_asg rfl rfl rfl ?_
        with_reducible refine xo_nil ?_
        with_reducible repeat (first | refine xq_then ?_ | refine xq_blockN ?_ | refine xq_scopeN ?_)
        with_reducible repeat refine xc_seq ?_
        with_reducible refine xc_region ?_
        refine xo_add rfl rfl rfl (by omega) rfl ?_
        refine xo_mv rfl rfl rfl ?_
        with_reducible refine xo_nil ?_
        with_reducible repeat (first | refine xq_then ?_ | refine xq_blockN ?_ | refine xq_scopeN ?_)
      · exact xq_again _ _ _ _ _ (j + 1, wayP id come way) ⟨by omega, by simp only; rw [hta, ← Bool.or_assoc, ← hfr]; rfl⟩ (by first | omega | (simp only; omega)) ⟨rfl, rfl, rfl, rfl, rfl, rfl, rfl, rfl, rfl, rfl, rfl, rfl, rfl, rfl, trivial⟩ (List.Sublist.refl _)
      · exact xq_again _ _ _ _ _ (j + 1, true) ⟨by omega, by simp only; rw [hta, ← Bool.or_assoc, ← hfr]; rfl⟩ (by first | omega | (simp only; omega)) ⟨rfl, rfl, rfl, rfl, rfl, rfl, rfl, rfl, rfl, rfl, rfl, rfl, rfl, rfl, trivial⟩ (List.Sublist.refl _)
    have hgej : ¬ j < x.f2.length := by have := of_decide_eq_false h; omega
    rw [List.take_of_length_le (by omega)] at hfr
    have hfr : from_ = fromF id come x := hfr
    rw [← hfr, ← hbm, ← hL] at hpl
    with_reducible refine xc_exit ?_
    with_reducible repeat (first | refine xq_blockX ?_ | refine xq_thenE ?_ | refine xq_blockE rfl ?_ | refine xq_scopeE ?_)
    with_reducible repeat (first | refine xq_then ?_ | refine xq_blockN ?_ | refine xq_scopeN ?_)
    rcases imGet_stM (L := L) (id := x.f0) with ⟨b, hb1, hb2⟩ | ⟨hb1, hb2⟩
    rotate_left
    · with_reducible repeat refine xc_seq ?_
      with_reducible refine xc_region ?_
      refine xo_mv rfl rfl rfl ?_
      refine xo_fa T_ rfl rfl rfl rfl rfl ?_
      refine xo_load0 T_ rfl rfl rfl (by repeat (first | exact List.Mem.head _ | apply List.Mem.tail | apply List.mem_append_right)) rfl rfl ?_
      refine xo_look2 T_ rfl rfl rfl rfl rfl rfl (by repeat (first | exact List.Mem.head _ | apply List.Mem.tail | apply List.mem_append_right)) (by rw [hb2]) (by rw [hb2]) rfl ?_
      refine xo_mv rfl rfl rfl ?_
      refine xo_ext rfl rfl rfl rfl ?_
      refine xo_ext rfl rfl rfl rfl ?_
      refine xo_asg rfl rfl rfl ?_
      refine xo_asg rfl rfl rfl ?_
      with_reducible refine xo_nil ?_
      with_reducible repeat (first | refine xq_then ?_ | refine xq_blockN ?_ | refine xq_scopeN ?_)
      rw [decide_eq_false hb1, Bool.and_false, if_neg (by simp)] at hpl
      cases from_
      all_goals
        with_reducible repeat refine xc_seq ?_
        with_reducible refine xc_region ?_
        refine xo_mv rfl rfl rfl ?_
        refine xo_notOp rfl rfl rfl ?_
        refine xo_mv rfl rfl rfl ?_
        first
          | refine xo_not rfl rfl ?_
          | (refine xo_mv rfl rfl rfl ?_)
        first
          | refine xo_not rfl rfl ?_
          | (refine xo_notOp rfl rfl rfl ?_)
        first | refine xo_pickT rfl rfl rfl rfl ?_ | refine xo_pickF rfl rfl rfl rfl ?_
        with_reducible refine xo_nil ?_
        with_reducible repeat (first | refine xq_then ?_ | refine xq_blockN ?_ | refine xq_scopeN ?_)
        with_reducible repeat refine xc_seq ?_
        refine xc_condT rfl ?_
        with_reducible refine xc_exit ?_
        with_reducible repeat (first | refine xq_blockX ?_ | refine xq_thenE ?_ | refine xq_blockE rfl ?_ | refine xq_scopeE ?_)
        with_reducible repeat (first | refine xq_then ?_ | refine xq_blockN ?_ | refine xq_scopeN ?_)
        with_reducible repeat refine xc_seq ?_
        with_reducible refine xc_region ?_
        refine xo_add rfl rfl rfl (by omega) rfl ?_
        refine xo_mv rfl rfl rfl ?_
        with_reducible refine xo_nil ?_
        with_reducible repeat (first | refine xq_then ?_ | refine xq_blockN ?_ | refine xq_scopeN ?_)
        exact xq_again _ _ _ _ _ (k + 1, come, sum) ⟨hlt, hsB.mono (by simp only; omega), hpl⟩ (by first | omega | (simp only; omega)) ⟨rfl, rfl, rfl, rfl, rfl, rfl, rfl, rfl, rfl, trivial⟩ (by repeat (first | exact List.Sublist.refl _ | apply List.Sublist.cons_cons | apply List.Sublist.cons | exact List.nil_sublist _))
    · with_reducible repeat refine xc_seq ?_
      with_reducible refine xc_region ?_
      refine xo_mv rfl rfl rfl ?_
      refine xo_fa T_ rfl rfl rfl rfl rfl ?_
      refine xo_load0 T_ rfl rfl rfl (by repeat (first | exact List.Mem.head _ | apply List.Mem.tail | apply List.mem_append_right)) rfl rfl ?_
      refine xo_look2 T_ rfl rfl rfl rfl rfl rfl (by repeat (first | exact List.Mem.head _ | apply List.Mem.tail | apply List.mem_append_right)) (by rw [hb2]) (by rw [hb2]) rfl ?_
      refine xo_mv rfl rfl rfl ?_
      refine xo_ext rfl rfl rfl rfl ?_
      refine xo_ext rfl rfl rfl rfl ?_
      refine xo_asg rfl rfl rfl ?_
      refine xo_asg rfl rfl rfl ?_
      with_reducible refine xo_nil ?_
      with_reducible repeat (first | refine xq_then ?_ | refine xq_blockN ?_ | refine xq_scopeN ?_)
      rw [decide_eq_true (List.mem_map.2 ⟨_, hb1, rfl⟩), Bool.and_true] at hpl
      cases from_
      · rw [if_neg (by simp)] at hpl
        with_reducible repeat refine xc_seq ?_
        with_reducible refine xc_region ?_
        refine xo_mv rfl rfl rfl ?_
        refine xo_notOp rfl rfl rfl ?_
        refine xo_mv rfl rfl rfl ?_
        first
          | refine xo_not rfl rfl ?_
          | (refine xo_mv rfl rfl rfl ?_)
        first
          | refine xo_not rfl rfl ?_
          | (refine xo_notOp rfl rfl rfl ?_)
        first | refine xo_pickT rfl rfl rfl rfl ?_ | refine xo_pickF rfl rfl rfl rfl ?_
        with_reducible refine xo_nil ?_
        with_reducible repeat (first | refine xq_then ?_ | refine xq_blockN ?_ | refine xq_scopeN ?_)
        with_reducible repeat refine xc_seq ?_
        refine xc_condT rfl ?_
        with_reducible refine xc_exit ?_
        with_reducible repeat (first | refine xq_blockX ?_ | refine xq_thenE ?_ | refine xq_blockE rfl ?_ | refine xq_scopeE ?_)
        with_reducible repeat (first | refine xq_then ?_ | refine xq_blockN ?_ | refine xq_scopeN ?_)
        with_reducible repeat refine xc_seq ?_
        with_reducible refine xc_region ?_
        refine xo_add rfl rfl rfl (by omega) rfl ?_
        refine xo_mv rfl rfl rfl ?_
        with_reducible refine xo_nil ?_
        with_reducible repeat (first | refine xq_then ?_ | refine xq_blockN ?_ | refine xq_scopeN ?_)
        exact xq_again _ _ _ _ _ (k + 1, come, sum) ⟨hlt, hsB.mono (by simp only; omega), hpl⟩ (by first | omega | (simp only; omega)) ⟨rfl, rfl, rfl, rfl, rfl, rfl, rfl, rfl, rfl, trivial⟩ (by repeat (first | exact List.Sublist.refl _ | apply List.Sublist.cons_cons | apply List.Sublist.cons | exact List.nil_sublist _))
      rw [if_pos rfl] at hpl
      have hB2 := count_B hcf x.f0
      have hsB' := (hsB.add hB2).mono (show 4000000 * (k : Int) + 4000000 ≤ 4000000 * ((k + 1 : Nat) : Int) by omega)
      with_reducible repeat refine xc_seq ?_
      with_reducible refine xc_region ?_
      refine xo_mv rfl rfl rfl ?_
      refine xo_notOp rfl rfl rfl ?_
      refine xo_mv rfl rfl rfl ?_
      first
        | refine xo_not rfl rfl ?_
        | (refine xo_mv rfl rfl rfl ?_)
      first
        | refine xo_not rfl rfl ?_
        | (refine xo_notOp rfl rfl rfl ?_)
      first | refine xo_pickT rfl rfl rfl rfl ?_ | refine xo_pickF rfl rfl rfl rfl ?_
      with_reducible refine xo_nil ?_
      with_reducible repeat (first | refine xq_then ?_ | refine xq_blockN ?_ | refine xq_scopeN ?_)
      with_reducible repeat refine xc_seq ?_
      refine xc_condF rfl ?_
      with_reducible refine xc_skip ?_
      with_reducible repeat (first | refine xq_then ?_ | refine xq_blockN ?_ | refine xq_scopeN ?_)
      with_reducible repeat refine xc_seq ?_
      with_reducible refine xc_region ?_
      refine xo_load0 T_ rfl rfl rfl (by repeat (first | exact List.Mem.head _ | apply List.Mem.tail | apply List.mem_append_right)) rfl rfl ?_
      refine xo_fa T_ rfl rfl rfl rfl rfl ?_
      refine xo_load0 T_ rfl rfl rfl (by repeat (first | exact List.Mem.head _ | apply List.Mem.tail | apply List.mem_append_right)) rfl rfl ?_
      refine xo_sins T_ rfl rfl rfl rfl rfl rfl (by repeat (first | exact List.Mem.head _ | apply List.Mem.tail | apply List.mem_append_right)) (by repeat (first | exact Upd.head | apply Upd.tail | apply Upd.app)) rfl ?_
      with_reducible refine xo_nil ?_
      with_reducible repeat (first | refine xq_then ?_ | refine xq_blockN ?_ | refine xq_scopeN ?_)
      with_reducible repeat refine xc_seq ?_
      with_reducible refine xc_region ?_
      refine xo_mv rfl rfl rfl ?_
      refine xo_nilck rfl rfl rfl ?_
      refine xo_loadN T_ rfl rfl rfl (List.Mem.tail _ (List.Mem.tail _ (List.Mem.tail _ (List.Mem.tail _ (List.Mem.tail _ (List.mem_append_left _ (stH_mem hb1))))))) rfl rfl ?_
      refine xo_build TB_ rfl rfl rfl rfl rfl ?_
      refine xo_neqSt (a := storeF m x.f0) (b := st0) rfl rfl rfl rfl ?_
      with_reducible refine xo_nil ?_
      with_reducible repeat (first | refine xq_then ?_ | refine xq_blockN ?_ | refine xq_scopeN ?_)
      with_reducible repeat refine xc_seq ?_
      refine xc_cond rfl (fun hz => ?_) (fun hz => ?_)
      · unfold StB at hsB hB2
        with_reducible repeat refine xc_seq ?_
        apply xc_drawE (fun g => []) (fun (η0 : Hp) g => match g with | [] => (η0) | a0 :: _ => ((b13, true, cel (recV x A2 c2) 50) :: (b11, true, cel (stV (addS sum (storeF m x.f0))) 27) :: (b10, true, cel [.map (some b39)] 62) :: (b39, true, hmap (setV (insN x.f0 come))) :: (M, true, hmap (stM L)) :: (stH (storeF m) L ++ [(b6, true, cel (stV st0) 27), (b5, true, cel [.int .i64 id] 3)]))) (fun _ => True) [0, 0, 0, 0, 0, 0, 0, 0, 0, 0, 0, 0, 0, 0, 0, 0, 0, 0, 0, 0, 0, 0, 0, 0, 0, 0, 0, 0, 0, 0, 0, 0, 0, 0, 0, 0, 0, 0, 0, 0, 0, 0, 0, 1] [43] [[42, 0, 1, 2, 3, 4, 5, 6, 7, 8, 9, 10, 11, 12, 13, 14, 15, 16, 17, 18, 19, 20, 21, 22, 23, 24, 25, 26, 27, 28, 29, 30, 31, 32, 33, 34, 35, 36, 37, 38, 39, 40, 41, 42]] (by trivial)
        apply SameLen.cons
        apply SameLen.cons
        apply SameLen.cons
        apply SameLen.cons
        apply SameLen.cons
        apply SameLen.cons
        apply SameLen.cons
        apply SameLen.cons
        apply SameLen.cons
        apply SameLen.cons
        apply SameLen.cons
        apply SameLen.cons
        apply SameLen.cons
        apply SameLen.cons
        apply SameLen.cons
        apply SameLen.cons
        apply SameLen.cons
        apply SameLen.cons
        apply SameLen.cons
        apply SameLen.cons
        apply SameLen.cons
        apply SameLen.cons
        apply SameLen.cons
        apply SameLen.cons
        apply SameLen.cons
        apply SameLen.cons
        apply SameLen.cons
        apply SameLen.cons
        apply SameLen.cons
        apply SameLen.cons
        apply SameLen.cons
        apply SameLen.cons
        apply SameLen.cons
        apply SameLen.cons
        apply SameLen.cons
        apply SameLen.cons
        apply SameLen.cons
        apply SameLen.cons
        apply SameLen.cons
        apply SameLen.cons
        apply SameLen.cons
        apply SameLen.cons
        apply SameLen.cons
        apply SameLen.cons
        exact SameLen.nil
        rotate_left 44
        case hH0 => rfl
        case hmix => exact T_.mixed
        case hbind => rfl
        case hdeps => rfl
        case hdist => rfl
        case hfresh => rfl
        case hE => rfl
        case hEn => decide
        · refine DrawE.pure 0 0 rfl (.inr (by decide)) (fun L g hg hd => Nat.zero_le _) (fun g hlo hhi hF τ => ?_) ?_
          · rcases g with _ | ⟨a0, _ | ⟨a1, g⟩⟩
            all_goals first
              | (exfalso; simp only [List.length_cons, List.length_nil] at hlo hhi; omega)
              | (refine ⟨_, rfl, ?_⟩
                 refine xo_fa T_ rfl rfl rfl rfl rfl ?_
                 exact xo_fin rfl)
          refine DrawE.pure 0 0 rfl (.inr (by decide)) (fun L g hg hd => Nat.zero_le _) (fun g hlo hhi hF τ => ?_) ?_
          · rcases g with _ | ⟨a0, _ | ⟨a1, g⟩⟩
            all_goals first
              | (exfalso; simp only [List.length_cons, List.length_nil] at hlo hhi; omega)
              | (refine ⟨_, rfl, ?_⟩
                 refine xo_load0 T_ rfl rfl rfl (by repeat (first | exact List.Mem.head _ | apply List.Mem.tail | apply List.mem_append_right)) rfl rfl ?_
                 exact xo_fin rfl)
          refine DrawE.pure 0 0 rfl (.inr (by decide)) (fun L g hg hd => Nat.zero_le _) (fun g hlo hhi hF τ => ?_) ?_
          · rcases g with _ | ⟨a0, _ | ⟨a1, g⟩⟩
            all_goals first
              | (exfalso; simp only [List.length_cons, List.length_nil] at hlo hhi; omega)
              | (refine ⟨_, rfl, ?_⟩
                 refine xo_mv rfl rfl rfl ?_
                 exact xo_fin rfl)
          refine DrawE.pure 0 0 rfl (.inr (by decide)) (fun L g hg hd => Nat.zero_le _) (fun g hlo hhi hF τ => ?_) ?_
          · rcases g with _ | ⟨a0, _ | ⟨a1, g⟩⟩
            all_goals first
              | (exfalso; simp only [List.length_cons, List.length_nil] at hlo hhi; omega)
              | (refine ⟨_, rfl, ?_⟩
                 refine xo_nilck rfl rfl rfl ?_
                 exact xo_fin rfl)
          refine DrawE.pure 0 0 rfl (.inr (by decide)) (fun L g hg hd => Nat.zero_le _) (fun g hlo hhi hF τ => ?_) ?_
          · rcases g with _ | ⟨a0, _ | ⟨a1, g⟩⟩
            all_goals first
              | (exfalso; simp only [List.length_cons, List.length_nil] at hlo hhi; omega)
              | (refine ⟨_, rfl, ?_⟩
                 refine xo_fa T_ rfl rfl rfl rfl rfl ?_
                 exact xo_fin rfl)
          refine DrawE.pure 0 0 rfl (.inr (by decide)) (fun L g hg hd => Nat.zero_le _) (fun g hlo hhi hF τ => ?_) ?_
          · rcases g with _ | ⟨a0, _ | ⟨a1, g⟩⟩
            all_goals first
              | (exfalso; simp only [List.length_cons, List.length_nil] at hlo hhi; omega)
              | (refine ⟨_, rfl, ?_⟩
                 refine xo_load0 T_ rfl rfl rfl (List.Mem.tail _ (List.Mem.tail _ (List.Mem.tail _ (List.Mem.tail _ (List.Mem.tail _ (List.mem_append_left _ (stH_mem hb1))))))) rfl rfl ?_
                 exact xo_fin rfl)
          refine DrawE.pure 0 0 rfl (.inr (by decide)) (fun L g hg hd => Nat.zero_le _) (fun g hlo hhi hF τ => ?_) ?_
          · rcases g with _ | ⟨a0, _ | ⟨a1, g⟩⟩
            all_goals first
              | (exfalso; simp only [List.length_cons, List.length_nil] at hlo hhi; omega)
              | (refine ⟨_, rfl, ?_⟩
                 refine xo_add rfl rfl rfl (by omega) rfl ?_
                 exact xo_fin rfl)
          refine DrawE.pure 0 0 rfl (.inr (by decide)) (fun L g hg hd => Nat.zero_le _) (fun g hlo hhi hF τ => ?_) ?_
          · rcases g with _ | ⟨a0, _ | ⟨a1, g⟩⟩
            all_goals first
              | (exfalso; simp only [List.length_cons, List.length_nil] at hlo hhi; omega)
              | (refine ⟨_, rfl, ?_⟩
                 refine xo_fa T_ rfl rfl rfl rfl rfl ?_
                 exact xo_fin rfl)
          refine DrawE.pure 0 0 rfl (.inr (by decide)) (fun L g hg hd => Nat.zero_le _) (fun g hlo hhi hF τ => ?_) ?_
          · rcases g with _ | ⟨a0, _ | ⟨a1, g⟩⟩
            all_goals first
              | (exfalso; simp only [List.length_cons, List.length_nil] at hlo hhi; omega)
              | (refine ⟨_, rfl, ?_⟩
                 refine xo_load0 T_ rfl rfl rfl (by repeat (first | exact List.Mem.head _ | apply List.Mem.tail | apply List.mem_append_right)) rfl rfl ?_
                 exact xo_fin rfl)
          refine DrawE.pure 0 0 rfl (.inr (by decide)) (fun L g hg hd => Nat.zero_le _) (fun g hlo hhi hF τ => ?_) ?_
          · rcases g with _ | ⟨a0, _ | ⟨a1, g⟩⟩
            all_goals first
              | (exfalso; simp only [List.length_cons, List.length_nil] at hlo hhi; omega)
              | (refine ⟨_, rfl, ?_⟩
                 refine xo_mv rfl rfl rfl ?_
                 exact xo_fin rfl)
          refine DrawE.pure 0 0 rfl (.inr (by decide)) (fun L g hg hd => Nat.zero_le _) (fun g hlo hhi hF τ => ?_) ?_
          · rcases g with _ | ⟨a0, _ | ⟨a1, g⟩⟩
            all_goals first
              | (exfalso; simp only [List.length_cons, List.length_nil] at hlo hhi; omega)
              | (refine ⟨_, rfl, ?_⟩
                 refine xo_nilck rfl rfl rfl ?_
                 exact xo_fin rfl)
          refine DrawE.pure 0 0 rfl (.inr (by decide)) (fun L g hg hd => Nat.zero_le _) (fun g hlo hhi hF τ => ?_) ?_
          · rcases g with _ | ⟨a0, _ | ⟨a1, g⟩⟩
            all_goals first
              | (exfalso; simp only [List.length_cons, List.length_nil] at hlo hhi; omega)
              | (refine ⟨_, rfl, ?_⟩
                 refine xo_fa T_ rfl rfl rfl rfl rfl ?_
                 exact xo_fin rfl)
          refine DrawE.pure 0 0 rfl (.inr (by decide)) (fun L g hg hd => Nat.zero_le _) (fun g hlo hhi hF τ => ?_) ?_
          · rcases g with _ | ⟨a0, _ | ⟨a1, g⟩⟩
            all_goals first
              | (exfalso; simp only [List.length_cons, List.length_nil] at hlo hhi; omega)
              | (refine ⟨_, rfl, ?_⟩
                 refine xo_load0 T_ rfl rfl rfl (List.Mem.tail _ (List.Mem.tail _ (List.Mem.tail _ (List.Mem.tail _ (List.Mem.tail _ (List.mem_append_left _ (stH_mem hb1))))))) rfl rfl ?_
                 exact xo_fin rfl)
          refine DrawE.pure 0 0 rfl (.inr (by decide)) (fun L g hg hd => Nat.zero_le _) (fun g hlo hhi hF τ => ?_) ?_
          · rcases g with _ | ⟨a0, _ | ⟨a1, g⟩⟩
            all_goals first
              | (exfalso; simp only [List.length_cons, List.length_nil] at hlo hhi; omega)
              | (refine ⟨_, rfl, ?_⟩
                 refine xo_add rfl rfl rfl (by omega) rfl ?_
                 exact xo_fin rfl)
          refine DrawE.pure 0 0 rfl (.inr (by decide)) (fun L g hg hd => Nat.zero_le _) (fun g hlo hhi hF τ => ?_) ?_
          · rcases g with _ | ⟨a0, _ | ⟨a1, g⟩⟩
            all_goals first
              | (exfalso; simp only [List.length_cons, List.length_nil] at hlo hhi; omega)
              | (refine ⟨_, rfl, ?_⟩
                 refine xo_fa T_ rfl rfl rfl rfl rfl ?_
                 exact xo_fin rfl)
          refine DrawE.pure 0 0 rfl (.inr (by decide)) (fun L g hg hd => Nat.zero_le _) (fun g hlo hhi hF τ => ?_) ?_
          · rcases g with _ | ⟨a0, _ | ⟨a1, g⟩⟩
            all_goals first
              | (exfalso; simp only [List.length_cons, List.length_nil] at hlo hhi; omega)
              | (refine ⟨_, rfl, ?_⟩
                 refine xo_load0 T_ rfl rfl rfl (by repeat (first | exact List.Mem.head _ | apply List.Mem.tail | apply List.mem_append_right)) rfl rfl ?_
                 exact xo_fin rfl)
          refine DrawE.pure 0 0 rfl (.inr (by decide)) (fun L g hg hd => Nat.zero_le _) (fun g hlo hhi hF τ => ?_) ?_
          · rcases g with _ | ⟨a0, _ | ⟨a1, g⟩⟩
            all_goals first
              | (exfalso; simp only [List.length_cons, List.length_nil] at hlo hhi; omega)
              | (refine ⟨_, rfl, ?_⟩
                 refine xo_mv rfl rfl rfl ?_
                 exact xo_fin rfl)
          refine DrawE.pure 0 0 rfl (.inr (by decide)) (fun L g hg hd => Nat.zero_le _) (fun g hlo hhi hF τ => ?_) ?_
          · rcases g with _ | ⟨a0, _ | ⟨a1, g⟩⟩
            all_goals first
              | (exfalso; simp only [List.length_cons, List.length_nil] at hlo hhi; omega)
              | (refine ⟨_, rfl, ?_⟩
                 refine xo_nilck rfl rfl rfl ?_
                 exact xo_fin rfl)
          refine DrawE.pure 0 0 rfl (.inr (by decide)) (fun L g hg hd => Nat.zero_le _) (fun g hlo hhi hF τ => ?_) ?_
          · rcases g with _ | ⟨a0, _ | ⟨a1, g⟩⟩
            all_goals first
              | (exfalso; simp only [List.length_cons, List.length_nil] at hlo hhi; omega)
              | (refine ⟨_, rfl, ?_⟩
                 refine xo_fa T_ rfl rfl rfl rfl rfl ?_
                 exact xo_fin rfl)
          refine DrawE.pure 0 0 rfl (.inr (by decide)) (fun L g hg hd => Nat.zero_le _) (fun g hlo hhi hF τ => ?_) ?_
          · rcases g with _ | ⟨a0, _ | ⟨a1, g⟩⟩
            all_goals first
              | (exfalso; simp only [List.length_cons, List.length_nil] at hlo hhi; omega)
              | (refine ⟨_, rfl, ?_⟩
                 refine xo_load0 T_ rfl rfl rfl (List.Mem.tail _ (List.Mem.tail _ (List.Mem.tail _ (List.Mem.tail _ (List.Mem.tail _ (List.mem_append_left _ (stH_mem hb1))))))) rfl rfl ?_
                 exact xo_fin rfl)
          refine DrawE.pure 0 0 rfl (.inr (by decide)) (fun L g hg hd => Nat.zero_le _) (fun g hlo hhi hF τ => ?_) ?_
          · rcases g with _ | ⟨a0, _ | ⟨a1, g⟩⟩
            all_goals first
              | (exfalso; simp only [List.length_cons, List.length_nil] at hlo hhi; omega)
              | (refine ⟨_, rfl, ?_⟩
                 refine xo_add rfl rfl rfl (by omega) rfl ?_
                 exact xo_fin rfl)
          refine DrawE.pure 0 0 rfl (.inr (by decide)) (fun L g hg hd => Nat.zero_le _) (fun g hlo hhi hF τ => ?_) ?_
          · rcases g with _ | ⟨a0, _ | ⟨a1, g⟩⟩
            all_goals first
              | (exfalso; simp only [List.length_cons, List.length_nil] at hlo hhi; omega)
              | (refine ⟨_, rfl, ?_⟩
                 refine xo_fa T_ rfl rfl rfl rfl rfl ?_
                 exact xo_fin rfl)
          refine DrawE.pure 0 0 rfl (.inr (by decide)) (fun L g hg hd => Nat.zero_le _) (fun g hlo hhi hF τ => ?_) ?_
          · rcases g with _ | ⟨a0, _ | ⟨a1, g⟩⟩
            all_goals first
              | (exfalso; simp only [List.length_cons, List.length_nil] at hlo hhi; omega)
              | (refine ⟨_, rfl, ?_⟩
                 refine xo_load0 T_ rfl rfl rfl (by repeat (first | exact List.Mem.head _ | apply List.Mem.tail | apply List.mem_append_right)) rfl rfl ?_
                 exact xo_fin rfl)
          refine DrawE.pure 0 0 rfl (.inr (by decide)) (fun L g hg hd => Nat.zero_le _) (fun g hlo hhi hF τ => ?_) ?_
          · rcases g with _ | ⟨a0, _ | ⟨a1, g⟩⟩
            all_goals first
              | (exfalso; simp only [List.length_cons, List.length_nil] at hlo hhi; omega)
              | (refine ⟨_, rfl, ?_⟩
                 refine xo_mv rfl rfl rfl ?_
                 exact xo_fin rfl)
          refine DrawE.pure 0 0 rfl (.inr (by decide)) (fun L g hg hd => Nat.zero_le _) (fun g hlo hhi hF τ => ?_) ?_
          · rcases g with _ | ⟨a0, _ | ⟨a1, g⟩⟩
            all_goals first
              | (exfalso; simp only [List.length_cons, List.length_nil] at hlo hhi; omega)
              | (refine ⟨_, rfl, ?_⟩
                 refine xo_nilck rfl rfl rfl ?_
                 exact xo_fin rfl)
          refine DrawE.pure 0 0 rfl (.inr (by decide)) (fun L g hg hd => Nat.zero_le _) (fun g hlo hhi hF τ => ?_) ?_
          · rcases g with _ | ⟨a0, _ | ⟨a1, g⟩⟩
            all_goals first
              | (exfalso; simp only [List.length_cons, List.length_nil] at hlo hhi; omega)
              | (refine ⟨_, rfl, ?_⟩
                 refine xo_fa T_ rfl rfl rfl rfl rfl ?_
                 exact xo_fin rfl)
          refine DrawE.pure 0 0 rfl (.inr (by decide)) (fun L g hg hd => Nat.zero_le _) (fun g hlo hhi hF τ => ?_) ?_
          · rcases g with _ | ⟨a0, _ | ⟨a1, g⟩⟩
            all_goals first
              | (exfalso; simp only [List.length_cons, List.length_nil] at hlo hhi; omega)
              | (refine ⟨_, rfl, ?_⟩
                 refine xo_load0 T_ rfl rfl rfl (List.Mem.tail _ (List.Mem.tail _ (List.Mem.tail _ (List.Mem.tail _ (List.Mem.tail _ (List.mem_append_left _ (stH_mem hb1))))))) rfl rfl ?_
                 exact xo_fin rfl)
          refine DrawE.pure 0 0 rfl (.inr (by decide)) (fun L g hg hd => Nat.zero_le _) (fun g hlo hhi hF τ => ?_) ?_
          · rcases g with _ | ⟨a0, _ | ⟨a1, g⟩⟩
            all_goals first
              | (exfalso; simp only [List.length_cons, List.length_nil] at hlo hhi; omega)
              | (refine ⟨_, rfl, ?_⟩
                 refine xo_add rfl rfl rfl (by omega) rfl ?_
                 exact xo_fin rfl)
          refine DrawE.pure 0 0 rfl (.inr (by decide)) (fun L g hg hd => Nat.zero_le _) (fun g hlo hhi hF τ => ?_) ?_
          · rcases g with _ | ⟨a0, _ | ⟨a1, g⟩⟩
            all_goals first
              | (exfalso; simp only [List.length_cons, List.length_nil] at hlo hhi; omega)
              | (refine ⟨_, rfl, ?_⟩
                 refine xo_fa T_ rfl rfl rfl rfl rfl ?_
                 exact xo_fin rfl)
          refine DrawE.pure 0 0 rfl (.inr (by decide)) (fun L g hg hd => Nat.zero_le _) (fun g hlo hhi hF τ => ?_) ?_
          · rcases g with _ | ⟨a0, _ | ⟨a1, g⟩⟩
            all_goals first
              | (exfalso; simp only [List.length_cons, List.length_nil] at hlo hhi; omega)
              | (refine ⟨_, rfl, ?_⟩
                 refine xo_load0 T_ rfl rfl rfl (by repeat (first | exact List.Mem.head _ | apply List.Mem.tail | apply List.mem_append_right)) rfl rfl ?_
                 exact xo_fin rfl)
          refine DrawE.pure 0 0 rfl (.inr (by decide)) (fun L g hg hd => Nat.zero_le _) (fun g hlo hhi hF τ => ?_) ?_
          · rcases g with _ | ⟨a0, _ | ⟨a1, g⟩⟩
            all_goals first
              | (exfalso; simp only [List.length_cons, List.length_nil] at hlo hhi; omega)
              | (refine ⟨_, rfl, ?_⟩
                 refine xo_mv rfl rfl rfl ?_
                 exact xo_fin rfl)
          refine DrawE.pure 0 0 rfl (.inr (by decide)) (fun L g hg hd => Nat.zero_le _) (fun g hlo hhi hF τ => ?_) ?_
          · rcases g with _ | ⟨a0, _ | ⟨a1, g⟩⟩
            all_goals first
              | (exfalso; simp only [List.length_cons, List.length_nil] at hlo hhi; omega)
              | (refine ⟨_, rfl, ?_⟩
                 refine xo_nilck rfl rfl rfl ?_
                 exact xo_fin rfl)
          refine DrawE.pure 0 0 rfl (.inr (by decide)) (fun L g hg hd => Nat.zero_le _) (fun g hlo hhi hF τ => ?_) ?_
          · rcases g with _ | ⟨a0, _ | ⟨a1, g⟩⟩
            all_goals first
              | (exfalso; simp only [List.length_cons, List.length_nil] at hlo hhi; omega)
              | (refine ⟨_, rfl, ?_⟩
                 refine xo_fa T_ rfl rfl rfl rfl rfl ?_
                 exact xo_fin rfl)
          refine DrawE.pure 0 0 rfl (.inr (by decide)) (fun L g hg hd => Nat.zero_le _) (fun g hlo hhi hF τ => ?_) ?_
          · rcases g with _ | ⟨a0, _ | ⟨a1, g⟩⟩
            all_goals first
              | (exfalso; simp only [List.length_cons, List.length_nil] at hlo hhi; omega)
              | (refine ⟨_, rfl, ?_⟩
                 refine xo_load0 T_ rfl rfl rfl (List.Mem.tail _ (List.Mem.tail _ (List.Mem.tail _ (List.Mem.tail _ (List.Mem.tail _ (List.mem_append_left _ (stH_mem hb1))))))) rfl rfl ?_
                 exact xo_fin rfl)
          refine DrawE.pure 0 0 rfl (.inr (by decide)) (fun L g hg hd => Nat.zero_le _) (fun g hlo hhi hF τ => ?_) ?_
          · rcases g with _ | ⟨a0, _ | ⟨a1, g⟩⟩
            all_goals first
              | (exfalso; simp only [List.length_cons, List.length_nil] at hlo hhi; omega)
              | (refine ⟨_, rfl, ?_⟩
                 refine xo_add rfl rfl rfl (by omega) rfl ?_
                 exact xo_fin rfl)
          refine DrawE.pure 0 0 rfl (.inr (by decide)) (fun L g hg hd => Nat.zero_le _) (fun g hlo hhi hF τ => ?_) ?_
          · rcases g with _ | ⟨a0, _ | ⟨a1, g⟩⟩
            all_goals first
              | (exfalso; simp only [List.length_cons, List.length_nil] at hlo hhi; omega)
              | (refine ⟨_, rfl, ?_⟩
                 refine xo_fa T_ rfl rfl rfl rfl rfl ?_
                 exact xo_fin rfl)
          refine DrawE.pure 0 0 rfl (.inr (by decide)) (fun L g hg hd => Nat.zero_le _) (fun g hlo hhi hF τ => ?_) ?_
          · rcases g with _ | ⟨a0, _ | ⟨a1, g⟩⟩
            all_goals first
              | (exfalso; simp only [List.length_cons, List.length_nil] at hlo hhi; omega)
              | (refine ⟨_, rfl, ?_⟩
                 refine xo_load0 T_ rfl rfl rfl (by repeat (first | exact List.Mem.head _ | apply List.Mem.tail | apply List.mem_append_right)) rfl rfl ?_
                 exact xo_fin rfl)
          refine DrawE.pure 0 0 rfl (.inr (by decide)) (fun L g hg hd => Nat.zero_le _) (fun g hlo hhi hF τ => ?_) ?_
          · rcases g with _ | ⟨a0, _ | ⟨a1, g⟩⟩
            all_goals first
              | (exfalso; simp only [List.length_cons, List.length_nil] at hlo hhi; omega)
              | (refine ⟨_, rfl, ?_⟩
                 refine xo_mv rfl rfl rfl ?_
                 exact xo_fin rfl)
          refine DrawE.pure 0 0 rfl (.inr (by decide)) (fun L g hg hd => Nat.zero_le _) (fun g hlo hhi hF τ => ?_) ?_
          · rcases g with _ | ⟨a0, _ | ⟨a1, g⟩⟩
            all_goals first
              | (exfalso; simp only [List.length_cons, List.length_nil] at hlo hhi; omega)
              | (refine ⟨_, rfl, ?_⟩
                 refine xo_nilck rfl rfl rfl ?_
                 exact xo_fin rfl)
          refine DrawE.pure 0 0 rfl (.inr (by decide)) (fun L g hg hd => Nat.zero_le _) (fun g hlo hhi hF τ => ?_) ?_
          · rcases g with _ | ⟨a0, _ | ⟨a1, g⟩⟩
            all_goals first
              | (exfalso; simp only [List.length_cons, List.length_nil] at hlo hhi; omega)
              | (refine ⟨_, rfl, ?_⟩
                 refine xo_fa T_ rfl rfl rfl rfl rfl ?_
                 exact xo_fin rfl)
          refine DrawE.pure 0 0 rfl (.inr (by decide)) (fun L g hg hd => Nat.zero_le _) (fun g hlo hhi hF τ => ?_) ?_
          · rcases g with _ | ⟨a0, _ | ⟨a1, g⟩⟩
            all_goals first
              | (exfalso; simp only [List.length_cons, List.length_nil] at hlo hhi; omega)
              | (refine ⟨_, rfl, ?_⟩
                 refine xo_load0 T_ rfl rfl rfl (List.Mem.tail _ (List.Mem.tail _ (List.Mem.tail _ (List.Mem.tail _ (List.Mem.tail _ (List.mem_append_left _ (stH_mem hb1))))))) rfl rfl ?_
                 exact xo_fin rfl)
          refine DrawE.pure 0 0 rfl (.inr (by decide)) (fun L g hg hd => Nat.zero_le _) (fun g hlo hhi hF τ => ?_) ?_
          · rcases g with _ | ⟨a0, _ | ⟨a1, g⟩⟩
            all_goals first
              | (exfalso; simp only [List.length_cons, List.length_nil] at hlo hhi; omega)
              | (refine ⟨_, rfl, ?_⟩
                 refine xo_add rfl rfl rfl (by omega) rfl ?_
                 exact xo_fin rfl)
          refine DrawE.pure 0 0 rfl (.inr (by decide)) (fun L g hg hd => Nat.zero_le _) (fun g hlo hhi hF τ => ?_) ?_
          · rcases g with _ | ⟨a0, _ | ⟨a1, g⟩⟩
            all_goals first
              | (exfalso; simp only [List.length_cons, List.length_nil] at hlo hhi; omega)
              | (refine ⟨_, rfl, ?_⟩
                 refine xo_build TB_ rfl rfl rfl rfl rfl ?_
                 exact xo_fin rfl)
          refine DrawE.eff 0 rfl (by decide) rfl (fun j hj => hj) (fun j g a hj => ?_) (fun L g hg hd => Nat.zero_le _) (fun g hgl hF τ => ?_) ?_
          · rcases j with _ | _ | _ | _ | _ | _ | _ | _ | _ | _ | _ | _ | _ | _ | _ | _ | _ | _ | _ | _ | _ | _ | _ | _ | _ | _ | _ | _ | _ | _ | _ | _ | _ | _ | _ | _ | _ | _ | _ | _ | _ | _ | _ | _ | j
            all_goals first | rfl | (rcases g with _ | ⟨a0, _ | ⟨a1, g⟩⟩ <;> first | rfl | exact absurd hj (by decide) | exact absurd hj (by simp [List.getD]))
          · obtain rfl : g = [] := by
              rcases g with _ | ⟨a0, g⟩ <;> first | rfl | (exfalso; simp only [List.length_cons, List.length_nil] at hgl; omega)
            refine xo_store T_ rfl rfl rfl rfl (by repeat (first | exact List.Mem.head _ | apply List.Mem.tail | apply List.mem_append_right)) rfl rfl rfl rfl (by repeat (first | exact Upd.head | apply Upd.tail | apply Upd.app)) rfl ?_
            exact xo_finE gv0 rfl trivial
          exact DrawE.nil
        intro g hgl hF
        obtain ⟨a0, rfl⟩ : ∃ a0, g = [a0] := by
          rcases g with _ | ⟨a0, _ | ⟨a1, g⟩⟩ <;> first | exact ⟨_, rfl⟩ | (exfalso; simp only [List.length_cons, List.length_nil] at hgl; omega)
        with_reducible repeat (first | refine xq_then ?_ | refine xq_blockN ?_ | refine xq_scopeN ?_)
        with_reducible repeat refine xc_seq ?_
        with_reducible refine xc_region ?_
        refine xo_add rfl rfl rfl (by omega) rfl ?_
        refine xo_mv rfl rfl rfl ?_
        with_reducible refine xo_nil ?_
        with_reducible repeat (first | refine xq_then ?_ | refine xq_blockN ?_ | refine xq_scopeN ?_)
        exact xq_again _ _ _ _ _ (k + 1, insN x.f0 come, addS sum (storeF m x.f0)) ⟨hlt, hsB', hpl⟩ (by first | omega | (simp only; omega)) ⟨rfl, rfl, rfl, rfl, rfl, rfl, rfl, rfl, rfl, trivial⟩ (List.sublist_cons_self _ _)
      · simp only [Bool.not_eq_false'] at hz
        rw [stEq_iff.1 hz, addS_zero] at hpl
        with_reducible refine xc_skip ?_
        with_reducible repeat (first | refine xq_then ?_ | refine xq_blockN ?_ | refine xq_scopeN ?_)
        with_reducible repeat refine xc_seq ?_
        with_reducible refine xc_region ?_
        refine xo_add rfl rfl rfl (by omega) rfl ?_
        refine xo_mv rfl rfl rfl ?_
        with_reducible refine xo_nil ?_
        with_reducible repeat (first | refine xq_then ?_ | refine xq_blockN ?_ | refine xq_scopeN ?_)
        exact xq_again _ _ _ _ _ (k + 1, insN x.f0 come, sum) ⟨hlt, hsB.mono (by simp only; omega), hpl⟩ (by first | omega | (simp only; omega)) ⟨rfl, rfl, rfl, rfl, rfl, rfl, rfl, rfl, rfl, trivial⟩ (List.sublist_cons_self _ _)
  have hge : ¬ k < r.length := by have := of_decide_eq_false h; omega
  rw [List.drop_of_length_le (by omega), piecesL] at hpl
  with_reducible refine xc_exit ?_
  with_reducible repeat (first | refine xq_blockX ?_ | refine xq_thenE ?_ | refine xq_blockE rfl ?_ | refine xq_scopeE ?_)
  with_reducible repeat (first | refine xq_then ?_ | refine xq_blockN ?_ | refine xq_scopeN ?_)
  with_reducible repeat refine xc_seq ?_
  with_reducible refine xc_region ?_
  refine xo_loadN T_ rfl rfl rfl (by repeat (first | exact List.Mem.head _ | apply List.Mem.tail | apply List.mem_append_right)) rfl rfl ?_
  refine xo_store T_ rfl rfl rfl rfl (by repeat (first | exact List.Mem.head _ | exact List.mem_append_left _ (List.Mem.head _) | apply List.mem_append_right | apply List.Mem.tail)) rfl rfl rfl rfl (Upd.tail (Upd.tail (Upd.tail (Upd.tail (Upd.app (by repeat (first | exact Upd.head | apply Upd.tail | apply Upd.app)) _))))) rfl ?_
  refine xo_asg rfl rfl rfl ?_
  with_reducible refine xo_nil ?_
  with_reducible repeat (first | refine xq_then ?_ | refine xq_blockN ?_ | refine xq_scopeN ?_)
  with_reducible repeat refine xc_seq ?_
  with_reducible refine xc_ret ?_
  with_reducible repeat (first | refine xq_thenR ?_ | refine xq_blockR ?_ | refine xq_scopeR ?_)
  exact xq_retC1 T_ rfl rfl rfl rfl (by repeat (first | exact List.Mem.head _ | exact List.mem_append_left _ (List.Mem.head _) | apply List.mem_append_right | apply List.Mem.tail)) rfl fun w' hw => ⟨by rw [e1, e2, hpl]; rfl, hw.kx.below⟩
theorem pieces_enters : ∀ args w, (callFunc 13 args).run Tryd.prog w = .ok (.enter 13 args) w := enters_of Tryd.func13 (by kernel_rfl) rfl
end Go.Proofs.YtcmepdamemnbkaaDoor
namespace Go.Proofs.YtcmepdamemnbkaaDoor
open Go.RowKit Go.Proofs.YtcmepdamemnbkaaDoorW.PrintWords
set_option linter.unusedVariables false
set_option linter.unusedSimpArgs false
theorem stStep1 (s : StT) (n : Int) : stStep s 1 n = ⟨s.a + n, s.b, s.c, s.d, s.e, s.l + n⟩ := rfl
theorem stStep2 (s : StT) (n : Int) : stStep s 2 n = ⟨s.a, s.b + n, s.c, s.d, s.e, s.l + n⟩ := rfl
theorem stStep3 (s : StT) (n : Int) : stStep s 3 n = ⟨s.a, s.b, s.c + n, s.d, s.e, s.l - n⟩ := rfl
theorem stStep4 (s : StT) (n : Int) : stStep s 4 n = ⟨s.a, s.b, s.c, s.d + n, s.e, s.l - n⟩ := rfl
theorem stStep5 (s : StT) (k n : Int) (h1 : ¬ k = 1) (h2 : ¬ k = 2) (h3 : ¬ k = 3) (h4 : ¬ k = 4) : stStep s k n = ⟨s.a, s.b, s.c, s.d, s.e + n, s.l - n⟩ := by
  rw [stStep, if_neg h1, if_neg h2, if_neg h3, if_neg h4]
set_option maxHeartbeats 16000000 in
theorem store_calls (B : Option Addr) (c' : Nat) (m : List MovT) (id : Int) (w : World) (hm : Kd.C movK w B m.length m) (hp : ∀ x ∈ m, 1 ≤ x.f3 ∧ x.f3 ≤ 100000) (hlen : m.length ≤ 100) :
    Calls Tryd.prog 49 #[.slice B m.length c', .int .i64 id] w fun e w' => e = .returned (.agg (stV (storeF m id)).toArray) ∧ Below w.heap.size w w' := by
  refine x_calls (X := XNone) Tryd.func49 rfl rfl rfl ?_
  with_reducible repeat refine xc_seq ?_
  with_reducible refine xc_region ?_
  refine xo_alloc T_ rfl rfl rfl rfl (fun b4 => ?_)
  with_reducible refine xo_nil ?_
  with_reducible repeat (first | refine xq_then ?_ | refine xq_blockN ?_ | refine xq_scopeN ?_)
  with_reducible repeat refine xc_seq ?_
  with_reducible refine xc_region ?_
  refine xo_alloc T_ rfl rfl rfl rfl (fun b5 => ?_)
  with_reducible refine xo_nil ?_
  with_reducible repeat (first | refine xq_then ?_ | refine xq_blockN ?_ | refine xq_scopeN ?_)
  with_reducible repeat refine xc_seq ?_
  with_reducible refine xc_region ?_
  refine xo_asg rfl rfl rfl ?_
  with_reducible refine xo_nil ?_
  with_reducible repeat (first | refine xq_then ?_ | refine xq_blockN ?_ | refine xq_scopeN ?_)
  with_reducible repeat refine xc_seq ?_
  with_reducible refine xc_block ?_
  refine xc_loop (γ := Nat) (fun k => k ≤ m.length) (fun k => [(0, .slice B m.length c'), (1, .int .i64 id), (4, .pointer (some ⟨b4, 0, none⟩)), (5, .pointer (some ⟨b5, 0, none⟩)), (6, .int .i64 (k : Int))])
    (fun k => [(b5, true, cel (stV (storeF (m.take k) id)) 27), (b4, true, cel (stV st0) 27)]) (fun k => m.length - k) 0 (Nat.zero_le _) ⟨rfl, rfl, rfl, rfl, rfl, trivial⟩ (by repeat (first | exact List.Sublist.refl _ | apply List.Sublist.cons_cons | apply List.Sublist.cons | exact List.nil_sublist _)) ?_
  intro k hk1
  with_reducible repeat refine xc_seq ?_
  with_reducible refine xc_region ?_
  refine xo_mv rfl rfl rfl ?_
  refine xo_mv rfl rfl rfl ?_
  refine xo_len T_ rfl rfl rfl rfl ?_
  refine xo_lss rfl rfl rfl rfl ?_
  with_reducible refine xo_nil ?_
  with_reducible repeat (first | refine xq_then ?_ | refine xq_blockN ?_ | refine xq_scopeN ?_)
  with_reducible repeat refine xc_seq ?_
  refine xc_cond rfl (fun h => ?_) (fun h => ?_)
  · have hlt : k < m.length := by have := of_decide_eq_true h; omega
    obtain ⟨ad, rfl, r1⟩ := mov_at hm k hlt
    have hpx := hp _ (getD_mem m zMov k hlt)
    have hsucc := storeF_succ hlt id
    have hB := storeF_B (m := m.take k) (fun x hx => hp x (List.mem_of_mem_take hx)) id
    have htl : ((m.take k).length : Int) ≤ 100 := by simp; omega
    generalize m.getD k zMov = x at *
    generalize storeF (m.take k) id = s at *
    unfold StB at hB
    with_reducible refine xc_skip ?_
    with_reducible repeat (first | refine xq_then ?_ | refine xq_blockN ?_ | refine xq_scopeN ?_)
    with_reducible repeat refine xc_seq ?_
    with_reducible refine xc_block ?_
    with_reducible repeat refine xc_seq ?_
    with_reducible refine xc_region ?_
    refine xo_mv rfl rfl rfl ?_
    refine xo_mv rfl rfl rfl ?_
    refine xo_ia T_ rfl rfl rfl rfl rfl ⟨by omega, by omega⟩ rfl ?_
    refine xo_faR T_ rfl rfl rfl rfl rfl ?_
    refine xo_loadR0 T_ rfl rfl rfl (by first | assumption | exact RO.fld (by assumption) rfl) rfl ?_
    refine xo_mv rfl rfl rfl ?_
    refine xo_neq rfl rfl rfl rfl ?_
    with_reducible refine xo_nil ?_
    with_reducible repeat (first | refine xq_then ?_ | refine xq_blockN ?_ | refine xq_scopeN ?_)
    with_reducible repeat refine xc_seq ?_
    refine xc_cond rfl (fun h1 => ?_) (fun h1 => ?_)
    · have h1 : ¬ x.f1 = id := by simpa using h1
      rw [if_neg h1] at hsucc
      with_reducible refine xc_exit ?_
      with_reducible repeat (first | refine xq_blockX ?_ | refine xq_thenE ?_ | refine xq_blockE rfl ?_ | refine xq_scopeE ?_)
      with_reducible repeat (first | refine xq_then ?_ | refine xq_blockN ?_ | refine xq_scopeN ?_)
      with_reducible repeat refine xc_seq ?_
      with_reducible refine xc_region ?_
      refine xo_mv rfl rfl rfl ?_
      refine xo_add rfl rfl rfl (by omega) rfl ?_
      refine xo_asg rfl rfl rfl ?_
      with_reducible refine xo_nil ?_
      with_reducible repeat (first | refine xq_then ?_ | refine xq_blockN ?_ | refine xq_scopeN ?_)
      exact xq_again _ _ _ _ _ (k + 1) (by omega) (by omega) ⟨rfl, rfl, rfl, rfl, rfl, trivial⟩ (by rw [hsucc]; exact (by repeat (first | exact List.Sublist.refl _ | apply List.Sublist.cons_cons | apply List.Sublist.cons | exact List.nil_sublist _)))
    have h1 : x.f1 = id := by simpa using h1
    rw [if_pos h1] at hsucc
    with_reducible refine xc_skip ?_
    with_reducible repeat (first | refine xq_then ?_ | refine xq_blockN ?_ | refine xq_scopeN ?_)
    with_reducible repeat refine xc_seq ?_
    with_reducible refine xc_region ?_
    refine xo_mv rfl rfl rfl ?_
    refine xo_mv rfl rfl rfl ?_
    refine xo_ia T_ rfl rfl rfl rfl rfl ⟨by omega, by omega⟩ rfl ?_
    refine xo_faR T_ rfl rfl rfl rfl rfl ?_
    refine xo_loadR0 T_ rfl rfl rfl (by first | assumption | exact RO.fld (by assumption) rfl) rfl ?_
    refine xo_asg rfl rfl rfl ?_
    with_reducible refine xo_nil ?_
    with_reducible repeat (first | refine xq_then ?_ | refine xq_blockN ?_ | refine xq_scopeN ?_)
    with_reducible repeat refine xc_seq ?_
    with_reducible refine xc_region ?_
    refine xo_mv rfl rfl rfl ?_
    refine xo_mv rfl rfl rfl ?_
    refine xo_ia T_ rfl rfl rfl rfl rfl ⟨by omega, by omega⟩ rfl ?_
    refine xo_faR T_ rfl rfl rfl rfl rfl ?_
    refine xo_loadR0 T_ rfl rfl rfl (by first | assumption | exact RO.fld (by assumption) rfl) rfl ?_
    with_reducible refine xo_nil ?_
    with_reducible repeat (first | refine xq_then ?_ | refine xq_blockN ?_ | refine xq_scopeN ?_)
    with_reducible repeat refine xc_seq ?_
    with_reducible refine xc_block ?_
    with_reducible repeat refine xc_seq ?_
    with_reducible refine xc_region ?_
    refine xo_eql rfl rfl rfl rfl ?_
    refine xo_asg rfl rfl rfl ?_
    with_reducible refine xo_nil ?_
    with_reducible repeat (first | refine xq_then ?_ | refine xq_blockN ?_ | refine xq_scopeN ?_)
    with_reducible repeat refine xc_seq ?_
    refine xc_cond rfl (fun k1 => ?_) (fun k1 => ?_)
    · have k1 : x.f2 = 1 := of_decide_eq_true k1
      rw [k1, stStep1] at hsucc
      with_reducible repeat refine xc_seq ?_
      with_reducible refine xc_region ?_
      refine xo_fa T_ rfl rfl rfl rfl rfl ?_
      refine xo_load0 T_ rfl rfl rfl (by repeat (first | exact List.Mem.head _ | apply List.Mem.tail | apply List.mem_append_right)) rfl rfl ?_
      refine xo_mv rfl rfl rfl ?_
      refine xo_add rfl rfl rfl (by omega) rfl ?_
      refine xo_fa T_ rfl rfl rfl rfl rfl ?_
      refine xo_store T_ rfl rfl rfl rfl (by repeat (first | exact List.Mem.head _ | apply List.Mem.tail | apply List.mem_append_right)) rfl rfl rfl rfl (by repeat (first | exact Upd.head | apply Upd.tail | apply Upd.app)) rfl ?_
      with_reducible refine xo_nil ?_
      with_reducible repeat (first | refine xq_then ?_ | refine xq_blockN ?_ | refine xq_scopeN ?_)
      with_reducible repeat refine xc_seq ?_
      with_reducible refine xc_region ?_
      refine xo_fa T_ rfl rfl rfl rfl rfl ?_
      refine xo_load0 T_ rfl rfl rfl (by repeat (first | exact List.Mem.head _ | apply List.Mem.tail | apply List.mem_append_right)) rfl rfl ?_
      refine xo_mv rfl rfl rfl ?_
      refine xo_add rfl rfl rfl (by omega) rfl ?_
      refine xo_fa T_ rfl rfl rfl rfl rfl ?_
      refine xo_store T_ rfl rfl rfl rfl (by repeat (first | exact List.Mem.head _ | apply List.Mem.tail | apply List.mem_append_right)) rfl rfl rfl rfl (by repeat (first | exact Upd.head | apply Upd.tail | apply Upd.app)) rfl ?_
      with_reducible refine xo_nil ?_
      with_reducible repeat (first | refine xq_then ?_ | refine xq_blockN ?_ | refine xq_scopeN ?_)
      with_reducible repeat refine xc_seq ?_
      with_reducible refine xc_region ?_
      refine xo_mv rfl rfl rfl ?_
      refine xo_add rfl rfl rfl (by omega) rfl ?_
      refine xo_asg rfl rfl rfl ?_
      with_reducible refine xo_nil ?_
      with_reducible repeat (first | refine xq_then ?_ | refine xq_blockN ?_ | refine xq_scopeN ?_)
      exact xq_again _ _ _ _ _ (k + 1) (by omega) (by omega) ⟨rfl, rfl, rfl, rfl, rfl, trivial⟩ (by rw [hsucc]; exact List.Sublist.refl _)
    have k1 : ¬ x.f2 = 1 := of_decide_eq_false k1
    with_reducible repeat refine xc_seq ?_
    with_reducible refine xc_region ?_
    refine xo_eql rfl rfl rfl rfl ?_
    refine xo_asg rfl rfl rfl ?_
    with_reducible refine xo_nil ?_
    with_reducible repeat (first | refine xq_then ?_ | refine xq_blockN ?_ | refine xq_scopeN ?_)
    with_reducible repeat refine xc_seq ?_
    refine xc_cond rfl (fun k2 => ?_) (fun k2 => ?_)
    · have k2 : x.f2 = 2 := of_decide_eq_true k2
      rw [k2, stStep2] at hsucc
      with_reducible repeat refine xc_seq ?_
      with_reducible refine xc_region ?_
      refine xo_fa T_ rfl rfl rfl rfl rfl ?_
      refine xo_load0 T_ rfl rfl rfl (by repeat (first | exact List.Mem.head _ | apply List.Mem.tail | apply List.mem_append_right)) rfl rfl ?_
      refine xo_mv rfl rfl rfl ?_
      refine xo_add rfl rfl rfl (by omega) rfl ?_
      refine xo_fa T_ rfl rfl rfl rfl rfl ?_
      refine xo_store T_ rfl rfl rfl rfl (by repeat (first | exact List.Mem.head _ | apply List.Mem.tail | apply List.mem_append_right)) rfl rfl rfl rfl (by repeat (first | exact Upd.head | apply Upd.tail | apply Upd.app)) rfl ?_
      with_reducible refine xo_nil ?_
      with_reducible repeat (first | refine xq_then ?_ | refine xq_blockN ?_ | refine xq_scopeN ?_)
      with_reducible repeat refine xc_seq ?_
      with_reducible refine xc_region ?_
      refine xo_fa T_ rfl rfl rfl rfl rfl ?_
      refine xo_load0 T_ rfl rfl rfl (by repeat (first | exact List.Mem.head _ | apply List.Mem.tail | apply List.mem_append_right)) rfl rfl ?_
      refine xo_mv rfl rfl rfl ?_
      refine xo_add rfl rfl rfl (by omega) rfl ?_
      refine xo_fa T_ rfl rfl rfl rfl rfl ?_
      refine xo_store T_ rfl rfl rfl rfl (by repeat (first | exact List.Mem.head _ | apply List.Mem.tail | apply List.mem_append_right)) rfl rfl rfl rfl (by repeat (first | exact Upd.head | apply Upd.tail | apply Upd.app)) rfl ?_
      with_reducible refine xo_nil ?_
      with_reducible repeat (first | refine xq_then ?_ | refine xq_blockN ?_ | refine xq_scopeN ?_)
      with_reducible repeat refine xc_seq ?_
      with_reducible refine xc_region ?_
      refine xo_mv rfl rfl rfl ?_
      refine xo_add rfl rfl rfl (by omega) rfl ?_
      refine xo_asg rfl rfl rfl ?_
      with_reducible refine xo_nil ?_
      with_reducible repeat (first | refine xq_then ?_ | refine xq_blockN ?_ | refine xq_scopeN ?_)
      exact xq_again _ _ _ _ _ (k + 1) (by omega) (by omega) ⟨rfl, rfl, rfl, rfl, rfl, trivial⟩ (by rw [hsucc]; exact List.Sublist.refl _)
    have k2 : ¬ x.f2 = 2 := of_decide_eq_false k2
    with_reducible repeat refine xc_seq ?_
    with_reducible refine xc_region ?_
    refine xo_eql rfl rfl rfl rfl ?_
    refine xo_asg rfl rfl rfl ?_
    with_reducible refine xo_nil ?_
    with_reducible repeat (first | refine xq_then ?_ | refine xq_blockN ?_ | refine xq_scopeN ?_)
    with_reducible repeat refine xc_seq ?_
    refine xc_cond rfl (fun k3 => ?_) (fun k3 => ?_)
    · have k3 : x.f2 = 3 := of_decide_eq_true k3
      rw [k3, stStep3] at hsucc
      with_reducible repeat refine xc_seq ?_
      with_reducible refine xc_region ?_
      refine xo_fa T_ rfl rfl rfl rfl rfl ?_
      refine xo_load0 T_ rfl rfl rfl (by repeat (first | exact List.Mem.head _ | apply List.Mem.tail | apply List.mem_append_right)) rfl rfl ?_
      refine xo_mv rfl rfl rfl ?_
      refine xo_add rfl rfl rfl (by omega) rfl ?_
      refine xo_fa T_ rfl rfl rfl rfl rfl ?_
      refine xo_store T_ rfl rfl rfl rfl (by repeat (first | exact List.Mem.head _ | apply List.Mem.tail | apply List.mem_append_right)) rfl rfl rfl rfl (by repeat (first | exact Upd.head | apply Upd.tail | apply Upd.app)) rfl ?_
      with_reducible refine xo_nil ?_
      with_reducible repeat (first | refine xq_then ?_ | refine xq_blockN ?_ | refine xq_scopeN ?_)
      with_reducible repeat refine xc_seq ?_
      with_reducible refine xc_region ?_
      refine xo_fa T_ rfl rfl rfl rfl rfl ?_
      refine xo_load0 T_ rfl rfl rfl (by repeat (first | exact List.Mem.head _ | apply List.Mem.tail | apply List.mem_append_right)) rfl rfl ?_
      refine xo_mv rfl rfl rfl ?_
      refine xo_sub rfl rfl rfl (by omega) rfl ?_
      refine xo_fa T_ rfl rfl rfl rfl rfl ?_
      refine xo_store T_ rfl rfl rfl rfl (by repeat (first | exact List.Mem.head _ | apply List.Mem.tail | apply List.mem_append_right)) rfl rfl rfl rfl (by repeat (first | exact Upd.head | apply Upd.tail | apply Upd.app)) rfl ?_
      with_reducible refine xo_nil ?_
      with_reducible repeat (first | refine xq_then ?_ | refine xq_blockN ?_ | refine xq_scopeN ?_)
      with_reducible repeat refine xc_seq ?_
      with_reducible refine xc_region ?_
      refine xo_mv rfl rfl rfl ?_
      refine xo_add rfl rfl rfl (by omega) rfl ?_
      refine xo_asg rfl rfl rfl ?_
      with_reducible refine xo_nil ?_
      with_reducible repeat (first | refine xq_then ?_ | refine xq_blockN ?_ | refine xq_scopeN ?_)
      exact xq_again _ _ _ _ _ (k + 1) (by omega) (by omega) ⟨rfl, rfl, rfl, rfl, rfl, trivial⟩ (by rw [hsucc]; exact List.Sublist.refl _)
    have k3 : ¬ x.f2 = 3 := of_decide_eq_false k3
    with_reducible repeat refine xc_seq ?_
    with_reducible refine xc_region ?_
    refine xo_eql rfl rfl rfl rfl ?_
    refine xo_asg rfl rfl rfl ?_
    with_reducible refine xo_nil ?_
    with_reducible repeat (first | refine xq_then ?_ | refine xq_blockN ?_ | refine xq_scopeN ?_)
    with_reducible repeat refine xc_seq ?_
    refine xc_cond rfl (fun k4 => ?_) (fun k4 => ?_)
    · have k4 : x.f2 = 4 := of_decide_eq_true k4
      rw [k4, stStep4] at hsucc
      with_reducible repeat refine xc_seq ?_
      with_reducible refine xc_region ?_
      refine xo_fa T_ rfl rfl rfl rfl rfl ?_
      refine xo_load0 T_ rfl rfl rfl (by repeat (first | exact List.Mem.head _ | apply List.Mem.tail | apply List.mem_append_right)) rfl rfl ?_
      refine xo_mv rfl rfl rfl ?_
      refine xo_add rfl rfl rfl (by omega) rfl ?_
      refine xo_fa T_ rfl rfl rfl rfl rfl ?_
      refine xo_store T_ rfl rfl rfl rfl (by repeat (first | exact List.Mem.head _ | apply List.Mem.tail | apply List.mem_append_right)) rfl rfl rfl rfl (by repeat (first | exact Upd.head | apply Upd.tail | apply Upd.app)) rfl ?_
      with_reducible refine xo_nil ?_
      with_reducible repeat (first | refine xq_then ?_ | refine xq_blockN ?_ | refine xq_scopeN ?_)
      with_reducible repeat refine xc_seq ?_
      with_reducible refine xc_region ?_
      refine xo_fa T_ rfl rfl rfl rfl rfl ?_
      refine xo_load0 T_ rfl rfl rfl (by repeat (first | exact List.Mem.head _ | apply List.Mem.tail | apply List.mem_append_right)) rfl rfl ?_
      refine xo_mv rfl rfl rfl ?_
      refine xo_sub rfl rfl rfl (by omega) rfl ?_
      refine xo_fa T_ rfl rfl rfl rfl rfl ?_
      refine xo_store T_ rfl rfl rfl rfl (by repeat (first | exact List.Mem.head _ | apply List.Mem.tail | apply List.mem_append_right)) rfl rfl rfl rfl (by repeat (first | exact Upd.head | apply Upd.tail | apply Upd.app)) rfl ?_
      with_reducible refine xo_nil ?_
      with_reducible repeat (first | refine xq_then ?_ | refine xq_blockN ?_ | refine xq_scopeN ?_)
      with_reducible repeat refine xc_seq ?_
      with_reducible refine xc_region ?_
      refine xo_mv rfl rfl rfl ?_
      refine xo_add rfl rfl rfl (by omega) rfl ?_
      refine xo_asg rfl rfl rfl ?_
      with_reducible refine xo_nil ?_
      with_reducible repeat (first | refine xq_then ?_ | refine xq_blockN ?_ | refine xq_scopeN ?_)
      exact xq_again _ _ _ _ _ (k + 1) (by omega) (by omega) ⟨rfl, rfl, rfl, rfl, rfl, trivial⟩ (by rw [hsucc]; exact List.Sublist.refl _)
    have k4 : ¬ x.f2 = 4 := of_decide_eq_false k4
    rw [stStep5 _ _ _ k1 k2 k3 k4] at hsucc
    with_reducible repeat refine xc_seq ?_
    with_reducible refine xc_region ?_
    refine xo_fa T_ rfl rfl rfl rfl rfl ?_
    refine xo_load0 T_ rfl rfl rfl (by repeat (first | exact List.Mem.head _ | apply List.Mem.tail | apply List.mem_append_right)) rfl rfl ?_
    refine xo_mv rfl rfl rfl ?_
    refine xo_add rfl rfl rfl (by omega) rfl ?_
    refine xo_fa T_ rfl rfl rfl rfl rfl ?_
    refine xo_store T_ rfl rfl rfl rfl (by repeat (first | exact List.Mem.head _ | apply List.Mem.tail | apply List.mem_append_right)) rfl rfl rfl rfl (by repeat (first | exact Upd.head | apply Upd.tail | apply Upd.app)) rfl ?_
    with_reducible refine xo_nil ?_
    with_reducible repeat (first | refine xq_then ?_ | refine xq_blockN ?_ | refine xq_scopeN ?_)
    with_reducible repeat refine xc_seq ?_
    with_reducible refine xc_region ?_
    refine xo_fa T_ rfl rfl rfl rfl rfl ?_
    refine xo_load0 T_ rfl rfl rfl (by repeat (first | exact List.Mem.head _ | apply List.Mem.tail | apply List.mem_append_right)) rfl rfl ?_
    refine xo_mv rfl rfl rfl ?_
    refine xo_sub rfl rfl rfl (by omega) rfl ?_
    refine xo_fa T_ rfl rfl rfl rfl rfl ?_
    refine xo_store T_ rfl rfl rfl rfl (by repeat (first | exact List.Mem.head _ | apply List.Mem.tail | apply List.mem_append_right)) rfl rfl rfl rfl (by repeat (first | exact Upd.head | apply Upd.tail | apply Upd.app)) rfl ?_
    with_reducible refine xo_nil ?_
    with_reducible repeat (first | refine xq_then ?_ | refine xq_blockN ?_ | refine xq_scopeN ?_)
    with_reducible repeat refine xc_seq ?_
    with_reducible refine xc_region ?_
    refine xo_mv rfl rfl rfl ?_
    refine xo_add rfl rfl rfl (by omega) rfl ?_
    refine xo_asg rfl rfl rfl ?_
    with_reducible refine xo_nil ?_
    with_reducible repeat (first | refine xq_then ?_ | refine xq_blockN ?_ | refine xq_scopeN ?_)
    exact xq_again _ _ _ _ _ (k + 1) (by omega) (by omega) ⟨rfl, rfl, rfl, rfl, rfl, trivial⟩ (by rw [hsucc]; exact List.Sublist.refl _)
  · have hge : ¬ k < m.length := by have := of_decide_eq_false h; omega
    rw [List.take_of_length_le (by omega)]
    with_reducible refine xc_exit ?_
    with_reducible repeat (first | refine xq_blockX ?_ | refine xq_thenE ?_ | refine xq_blockE rfl ?_ | refine xq_scopeE ?_)
    with_reducible repeat (first | refine xq_then ?_ | refine xq_blockN ?_ | refine xq_scopeN ?_)
    with_reducible repeat refine xc_seq ?_
    with_reducible refine xc_region ?_
    refine xo_loadN T_ rfl rfl rfl (by repeat (first | exact List.Mem.head _ | apply List.Mem.tail | apply List.mem_append_right)) rfl rfl ?_
    refine xo_store T_ rfl rfl rfl rfl (by repeat (first | exact List.Mem.head _ | apply List.Mem.tail | apply List.mem_append_right)) rfl rfl rfl rfl (by repeat (first | exact Upd.head | apply Upd.tail | apply Upd.app)) rfl ?_
    with_reducible refine xo_nil ?_
    with_reducible repeat (first | refine xq_then ?_ | refine xq_blockN ?_ | refine xq_scopeN ?_)
    with_reducible repeat refine xc_seq ?_
    with_reducible refine xc_ret ?_
    with_reducible repeat (first | refine xq_thenR ?_ | refine xq_blockR ?_ | refine xq_scopeR ?_)
    exact xq_retC T_ rfl rfl rfl (by repeat (first | exact List.Mem.head _ | apply List.Mem.tail | apply List.mem_append_right)) rfl fun w' hw => ⟨rfl, hw.kx.below⟩
theorem store_enters : ∀ args w, (callFunc 49 args).run Tryd.prog w = .ok (.enter 49 args) w := enters_of Tryd.func49 (by kernel_rfl) rfl
end Go.Proofs.YtcmepdamemnbkaaDoor
