/- ref08.Hold: plain part. / trust.count: the moves of all batches. / trust.Pieces. / ref08.store, Moves answer what trust.count answers. / ref08.Moves answers what trust.count answers. / ref08.Hold: the walk. / ref08.Comes: which batches come of a record. / The library's own functions that the shelf's contract asks, where they lie in this program. / slices.AppendSeq, Collect over an iterator that yields one of several lists. -/
import Derived.Test.YtcmepdamemnbkaaDoorPkLawTrustCauses5
import Derived.Test.YtcmepdamemnbkaaDoorPkLawTrustCauses4
import Derived.Test.YtcmepdamemnbkaaDoorPkLawTrustCauses2
import Derived.Shelf.Sort.Plain
import Derived.Shelf.Lays
import Derived.Test.YtcmepdamemnbkaaDoorPkLawTrustCauses3
namespace Go.Proofs.YtcmepdamemnbkaaDoor
open Go.RowKit Go.Proofs.YtcmepdamemnbkaaDoorW.PrintWords
set_option linter.unusedVariables false
set_option linter.unusedSimpArgs false
theorem recorded_len {r : List RecT} (h : recordedF r = true) : r.length ≤ 12 := by
  simp only [recordedF, Bool.and_eq_true, decide_eq_true_eq] at h
  exact h.2
theorem sorted_of {r : List RecT} (h : recordedF r = true) : SortedIds r := by
  simp only [recordedF, Bool.and_eq_true] at h
  exact (recF_sorted r _ _ h.1).2
theorem sorted_inj {r : List RecT} (h : SortedIds r) {i j : Nat} (hi : i < r.length) (hj : j < r.length) (e : idAt r i = idAt r j) : i = j := by
  by_cases h1 : i < j
  · have := sorted_lt h j i h1 hj; omega
  · by_cases h2 : j < i
    · have := sorted_lt h i j h2 hi; omega
    · omega
theorem wayF_mem {bs : List Int} : ∀ (w : List Int) (p : Int), wayF bs p w = true → ∀ n ∈ w, n ∈ bs
  | [], _, _, n, h => by cases h
  | m :: w, p, h, n, hn => by
    simp only [wayF, Bool.and_eq_true, Bool.not_eq_true', Bool.or_eq_false_iff, Bool.not_eq_false', decide_eq_true_eq] at h
    rcases List.mem_cons.1 hn with rfl | hn
    · exact h.1.2
    · exact wayF_mem w m h.2 n hn
theorem recF_known : ∀ (r : List RecT) (bs : List Int) (last : Int), recF bs last r = true → ∀ x ∈ r, ∀ way ∈ x.f2, ∀ n ∈ way, n ∈ bs ∨ knownF r n = true
  | [], _, _, _, x, h, _, _, _, _ => by cases h
  | y :: r, bs, last, h, x, hx, way, hw, n, hn => by
    simp only [recF, Bool.and_eq_true] at h
    obtain ⟨_, h1, h2⟩ := h
    rcases List.mem_cons.1 hx with rfl | hx
    · rw [waysF, List.all_eq_true] at h1
      have := h1 way hw
      simp only [Bool.and_eq_true] at this
      exact .inl (wayF_mem way _ this.1 n hn)
    · rcases recF_known r _ _ h2 x hx way hw n hn with h3 | h3
      · rcases mem_insN.1 h3 with rfl | h3
        · right; simp [knownF]
        · exact .inl h3
      · right
        simp only [knownF, List.any_cons, Bool.or_eq_true] at h3 ⊢
        exact .inr h3
theorem recorded_known {r : List RecT} (h : recordedF r = true) {x : RecT} (hx : x ∈ r) {way : List Int} (hw : way ∈ x.f2) {n : Int} (hn : n ∈ way) : knownF r n = true := by
  simp only [recordedF, Bool.and_eq_true] at h
  rcases recF_known r _ _ h.1 x hx way hw n hn with h1 | h1
  · cases h1
  · exact h1
theorem idxF_at {α : Type} (p : α → Bool) (z : α) : ∀ (zs : List α) (i : Nat), zs.any p = true → ∃ a, a < zs.length ∧ idxF p zs i = ((i + a : Nat) : Int) ∧ p (zs.getD a z) = true
  | [], _, h => by cases h
  | x :: r, i, h => by
    by_cases hx : p x = true
    · exact ⟨0, by simp, by simp [idxF, hx], by simpa using hx⟩
    · have hx' : p x = false := by simpa using hx
      rw [List.any_cons, hx', Bool.false_or] at h
      obtain ⟨a, h1, h2, h3⟩ := idxF_at p z r (i + 1) h
      exact ⟨a + 1, by simpa using h1, by rw [idxF, hx', if_neg (by simp), h2]; omega, by simpa using h3⟩
theorem atF_known {r : List RecT} {n : Int} (h : knownF r n = true) : ∃ a, a < r.length ∧ atF r n = (a : Int) ∧ idAt r a = n := by
  obtain ⟨a, h1, h2, h3⟩ := idxF_at (fun x : RecT => decide (x.f0 = n)) zRec r 0 h
  exact ⟨a, h1, by rw [atF, h2]; simp, of_decide_eq_true h3⟩
theorem holdsL_mem {G : List Int} : ∀ (r : List RecT) (bs : List Int) (n : Int), n ∈ holdsL G bs r → ∃ i, i < r.length ∧ idAt r i = n
  | [], _, n, h => by cases h
  | x :: r, bs, n, h => by
    unfold holdsL at h
    split at h
    · obtain ⟨i, h1, h2⟩ := holdsL_mem r _ n h
      exact ⟨i + 1, by simpa using h1, by simpa [idAt] using h2⟩
    · rcases List.mem_cons.1 h with rfl | h
      · exact ⟨0, by simp, rfl⟩
      · obtain ⟨i, h1, h2⟩ := holdsL_mem r _ n h
        exact ⟨i + 1, by simpa using h1, by simpa [idAt] using h2⟩
theorem idAt_drop (r : List RecT) (k i : Nat) : idAt (r.drop k) i = idAt r (k + i) := by simp [idAt, List.getD_eq_getElem?_getD, List.getElem?_drop]
theorem hold_state (r : List RecT) (G : List Int) : ∀ k, k ≤ r.length → ∃ bs pre, holdsF r G = pre ++ holdsL G bs (r.drop k) ∧ (∀ n, n ∈ bs ↔ n ∈ pre) ∧ ∀ n ∈ pre, ∃ i, i < k ∧ idAt r i = n
  | 0, _ => ⟨[], [], rfl, fun n => Iff.rfl, fun n h => by cases h⟩
  | k + 1, hk => by
    obtain ⟨bs, pre, h1, h2, h3⟩ := hold_state r G k (by omega)
    rw [drop_at r zRec k (by omega), holdsL] at h1
    split at h1
    · exact ⟨bs, pre, h1, h2, fun n hn => by obtain ⟨i, hi, e⟩ := h3 n hn; exact ⟨i, by omega, e⟩⟩
    · refine ⟨insN (r.getD k zRec).f0 bs, pre ++ [(r.getD k zRec).f0], by rw [h1, List.append_assoc]; rfl, fun n => ?_, fun n hn => ?_⟩
      · rw [mem_insN, h2, List.mem_append, List.mem_singleton]
        exact or_comm
      · rcases List.mem_append.1 hn with hn | hn
        · obtain ⟨i, hi, e⟩ := h3 n hn; exact ⟨i, by omega, e⟩
        · rw [List.mem_singleton] at hn; exact ⟨k, by omega, hn.symm⟩
/-- what the reference's row of truths says of the k-th record -/
theorem hold_at {r : List RecT} (hs : SortedIds r) (G : List Int) (k : Nat) (hk : k < r.length) :
    ∃ bs, decide (idAt r k ∈ holdsF r G) = (standsF bs (r.getD k zRec).f2 && !decide (idAt r k ∈ G)) ∧ ∀ n, n ∈ bs ↔ n ∈ holdsF r G ∧ ∃ i, i < k ∧ idAt r i = n := by
  obtain ⟨bs, pre, h1, h2, h3⟩ := hold_state r G k (by omega)
  have hlater : ∀ bs n, n ∈ holdsL G bs (r.drop (k + 1)) → ∃ i, k < i ∧ i < r.length ∧ idAt r i = n := fun bs n hn => by
    obtain ⟨i, hi, e⟩ := holdsL_mem _ _ _ hn
    rw [idAt_drop] at e
    rw [List.length_drop] at hi
    exact ⟨k + 1 + i, by omega, by omega, e⟩
  have hnot : ∀ bs, idAt r k ∉ holdsL G bs (r.drop (k + 1)) := fun bs hn => by
    obtain ⟨i, h4, h5, e⟩ := hlater bs _ hn
    have := sorted_inj hs h5 hk e
    omega
  have hpre : idAt r k ∉ pre := fun hn => by
    obtain ⟨i, hi, e⟩ := h3 _ hn
    have := sorted_inj hs (by omega) hk e
    omega
  have hall : ∀ n, n ∈ holdsL G bs (r.drop k) → ∃ i, k ≤ i ∧ i < r.length ∧ idAt r i = n := fun n hn => by
    obtain ⟨i, hi, e⟩ := holdsL_mem _ _ _ hn
    rw [idAt_drop] at e
    rw [List.length_drop] at hi
    exact ⟨k + i, by omega, by omega, e⟩
  refine ⟨bs, ?_, fun n => ?_⟩
  · have h4 : idAt r k ∈ holdsF r G ↔ idAt r k ∈ holdsL G bs (r.drop k) := by
      rw [h1, List.mem_append]
      exact ⟨fun h => h.resolve_left hpre, .inr⟩
    have hid : (r.getD k zRec).f0 = idAt r k := rfl
    rw [drop_at r zRec k hk, holdsL, hid] at h4
    rw [Bool.eq_iff_iff, decide_eq_true_eq, h4]
    by_cases h5 : idAt r k ∈ G <;> cases h6 : standsF bs (r.getD k zRec).f2 <;> simp [h5, hnot]
  · rw [h2, h1, List.mem_append]
    constructor
    · intro hn
      exact ⟨.inl hn, h3 n hn⟩
    · rintro ⟨hn | hn, i, hi, e⟩
      · exact hn
      · obtain ⟨j, h4, h5, e2⟩ := hall n hn
        have := sorted_inj hs (by omega : i < r.length) h5 (e.trans e2.symm)
        omega
theorem fill_load {f : Nat → Bool} {n k a : Nat} (h : a < n) : ((fillB f n k).map Value.bool)[0 + (a : Int).toNat * szN 0]? = some (.bool (decide (a < k) && f a)) := by
  rw [show 0 + (a : Int).toNat * szN 0 = a by simp [szN], List.getElem?_map, fillB_get _ _ _ _ h]
  rfl
end Go.Proofs.YtcmepdamemnbkaaDoor
namespace Go.Proofs.YtcmepdamemnbkaaDoor
open Go.RowKit Go.Proofs.YtcmepdamemnbkaaDoorW.PrintWords
set_option linter.unusedVariables false
set_option linter.unusedSimpArgs false
theorem batch_at {r : List RecT} {k : Nat} {n : Int} (h : n ∈ batchesF (r.take k)) : ∃ j, j < k ∧ j < r.length ∧ idAt r j = n := by
  simp only [batchesF, List.mem_map, List.mem_filter] at h
  obtain ⟨x, ⟨h1, _⟩, rfl⟩ := h
  obtain ⟨j, hj, rfl⟩ := List.getElem_of_mem h1
  have hj2 : j < k ∧ j < r.length := by simp at hj; omega
  refine ⟨j, hj2.1, hj2.2, ?_⟩
  simp [idAt, List.getD_eq_getElem?_getD, List.getElem?_eq_getElem hj2.2]
theorem batch_new {r : List RecT} (hs : SortedIds r) {k : Nat} (hk : k < r.length) : (r.getD k zRec).f0 ∉ batchesF (r.take k) := fun h => by
  obtain ⟨j, h1, h2, h3⟩ := batch_at h
  have := sorted_inj hs h2 hk h3
  omega
theorem batches_nodup {r : List RecT} (hs : SortedIds r) : ∀ k, k ≤ r.length → (batchesF (r.take k)).Nodup
  | 0, _ => by simp [batchesF]
  | k + 1, h => by
    rw [batchesF_take (by omega)]
    split
    · refine List.nodup_append.2 ⟨batches_nodup hs k (by omega), by simp, fun a ha b hb e => ?_⟩
      rw [List.mem_singleton] at hb
      subst hb
      subst e
      exact batch_new hs (by omega) ha
    · rw [List.append_nil]
      exact batches_nodup hs k (by omega)
theorem Ents.stM {es : Array MapEntry} {c : Nat} {L : List (Int × Nat)} (h : Ents es c (stM L)) {e : MapEntry} (he : e ∈ es.toList) : ∃ p ∈ L, e.key = .int .i64 p.1 ∧ e.val = .pointer (some ⟨p.2, 0, none⟩) := by
  have h1 : kvE e ∈ es.toList.map kvE := List.mem_map_of_mem he
  rw [h.is, Go.Proofs.YtcmepdamemnbkaaDoor.stM, List.map_map] at h1
  obtain ⟨p, hp, h2⟩ := List.mem_map.1 h1
  exact ⟨p, hp, (congrArg Prod.fst h2).symm, (congrArg Prod.snd h2).symm⟩
theorem Ents.stM' {es : Array MapEntry} {c : Nat} {L : List (Int × Nat)} (h : Ents es c (Go.Proofs.YtcmepdamemnbkaaDoor.stM L)) {p : Int × Nat} (hp : p ∈ L) : ∃ e ∈ es.toList, e.key = .int .i64 p.1 := by
  have h1 : (Value.int .i64 p.1, Value.pointer (some ⟨p.2, 0, none⟩)) ∈ es.toList.map kvE := by
    rw [h.is, Go.Proofs.YtcmepdamemnbkaaDoor.stM, List.map_map]
    exact List.mem_map.2 ⟨p, hp, rfl⟩
  obtain ⟨e, he, h2⟩ := List.mem_map.1 h1
  exact ⟨e, he, congrArg Prod.fst h2⟩
theorem once_eq {es : Array MapEntry} {c : Nat} {l : List (Int × Value)} (hE : Ents es c l) {e e' : MapEntry} (he : e ∈ es.toList) (he' : e' ∈ es.toList) (h : e.born = e'.born) : e = e' := by
  obtain ⟨i, hi, rfl⟩ := List.getElem_of_mem he
  obtain ⟨j, hj, rfl⟩ := List.getElem_of_mem he'
  have ho := hE.once
  by_cases q : i = j
  · subst q; rfl
  · exfalso
    rw [List.nodup_iff_pairwise_ne, List.pairwise_iff_getElem] at ho
    by_cases hl : i < j
    · exact ho i j (by simpa using hi) (by simpa using hj) hl (by simpa using h)
    · exact ho j i (by simpa using hj) (by simpa using hi) (by omega) (by simpa using h.symm)
set_option maxHeartbeats 16000000 in
theorem count_calls (A B : Option Addr) (c c' : Nat) (r : List RecT) (m : List MovT) (w : World) (hr : Kd.C recK w A r.length r) (hm : Kd.C movK w B m.length m) (hkm : BytesM m) (hs : SortedIds r) (hlen : r.length ≤ 1000000) (hglob : GlobOK w) :
    Calls Tryd.prog 42 #[.slice A r.length c, .slice B m.length c'] w fun e w' => (countF r m = false ∧ e = .returned (.tuple #[.map none, .bool false]) ∧ Below w.heap.size w w') ∨
      (countF r m = true ∧ ∃ M L, e = .returned (.tuple #[.map (some M), .bool true]) ∧ L.map (·.1) = batchesF r ∧ WOK w XNone ((M, true, hmap (stM L)) :: stH (storeF m) L) w') := by
  have hn := hr.2.1
  have hn2 := hm.2.1
  refine x_calls (X := XNone) Tryd.func42 rfl rfl rfl ?_
  with_reducible repeat refine xc_seq ?_
  with_reducible refine xc_region ?_
  refine xo_asg rfl rfl rfl ?_
  refine xo_asg rfl rfl rfl ?_
  with_reducible refine xo_nil ?_
  with_reducible repeat (first | refine xq_then ?_ | refine xq_blockN ?_ | refine xq_scopeN ?_)
  with_reducible repeat refine xc_seq ?_
  with_reducible refine xc_region ?_
  refine xo_mkm rfl rfl (fun b16 => ?_)
  refine xo_asg rfl rfl rfl ?_
  with_reducible refine xo_nil ?_
  with_reducible repeat (first | refine xq_then ?_ | refine xq_blockN ?_ | refine xq_scopeN ?_)
  with_reducible repeat refine xc_seq ?_
  with_reducible refine xc_region ?_
  refine xo_mv rfl rfl rfl ?_
  refine xo_len T_ rfl rfl rfl rfl ?_
  refine xo_mv rfl rfl rfl ?_
  with_reducible refine xo_nil ?_
  with_reducible repeat (first | refine xq_then ?_ | refine xq_blockN ?_ | refine xq_scopeN ?_)
  with_reducible repeat refine xc_seq ?_
  with_reducible refine xc_block ?_
  refine xc_loop (γ := Nat × List (Int × Nat)) (fun q => q.1 ≤ r.length ∧ q.2.map (·.1) = batchesF (r.take q.1)) (fun q => [(0, .slice A r.length c), (1, .slice B m.length c'), (6, .map (some b16)), (17, .slice A r.length c), (18, .int .i64 (r.length : Int)), (19, .int .i64 (q.1 : Int))])
    (fun q => (b16, true, hmap (stM q.2)) :: stH (fun _ => st0) q.2) (fun q => r.length - q.1) (0, []) ⟨Nat.zero_le _, by simp [batchesF]⟩ ⟨rfl, rfl, rfl, rfl, rfl, rfl, trivial⟩ (by repeat (first | exact List.Sublist.refl _ | apply List.Sublist.cons_cons | apply List.Sublist.cons | exact List.nil_sublist _)) ?_
  rintro ⟨k, L⟩ ⟨hk1, hL⟩
  simp only at hk1 hL ⊢
  with_reducible repeat refine xc_seq ?_
  with_reducible refine xc_region ?_
  refine xo_lss rfl rfl rfl rfl ?_
  with_reducible refine xo_nil ?_
  with_reducible repeat (first | refine xq_then ?_ | refine xq_blockN ?_ | refine xq_scopeN ?_)
  with_reducible repeat refine xc_seq ?_
  refine xc_cond rfl (fun h => ?_) (fun h => ?_)
  · have hlt : k < r.length := by have := of_decide_eq_true h; omega
    obtain ⟨ad, A2, c2, rfl, r1, hc2, hw2⟩ := rec_at hr k hlt
    have hnew := batch_new hs hlt
    have htk := batchesF_take hlt
    rw [← hL] at hnew htk
    generalize r.getD k zRec = x at *
    with_reducible refine xc_skip ?_
    with_reducible repeat (first | refine xq_then ?_ | refine xq_blockN ?_ | refine xq_scopeN ?_)
    with_reducible repeat refine xc_seq ?_
    with_reducible refine xc_block ?_
    with_reducible repeat refine xc_seq ?_
    with_reducible refine xc_region ?_
    refine xo_ia T_ rfl rfl rfl rfl rfl ⟨by omega, by omega⟩ rfl ?_
    refine xo_loadRN T_ rfl rfl rfl (by assumption) rfl rfl ?_
    refine xo_alloc T_ rfl rfl rfl rfl (fun b8 => ?_)
    refine xo_store T_ rfl rfl rfl rfl (by repeat (first | exact List.Mem.head _ | apply List.Mem.tail | apply List.mem_append_right)) rfl rfl rfl rfl (by repeat (first | exact Upd.head | apply Upd.tail | apply Upd.app)) rfl ?_
    with_reducible refine xo_nil ?_
    with_reducible repeat (first | refine xq_then ?_ | refine xq_blockN ?_ | refine xq_scopeN ?_)
    with_reducible repeat refine xc_seq ?_
    with_reducible refine xc_region ?_
    refine xo_fa T_ rfl rfl rfl rfl rfl ?_
    refine xo_load0 T_ rfl rfl rfl (by repeat (first | exact List.Mem.head _ | apply List.Mem.tail | apply List.mem_append_right)) rfl rfl ?_
    refine xo_eql rfl rfl rfl rfl ?_
    with_reducible refine xo_nil ?_
    with_reducible repeat (first | refine xq_then ?_ | refine xq_blockN ?_ | refine xq_scopeN ?_)
    with_reducible repeat refine xc_seq ?_
    refine xc_cond rfl (fun h3 => ?_) (fun h3 => ?_)
    · have h3 : x.f1 = 3 := of_decide_eq_true h3
      with_reducible repeat refine xc_seq ?_
      with_reducible refine xc_region ?_
      refine xo_mv rfl rfl rfl ?_
      refine xo_fa T_ rfl rfl rfl rfl rfl ?_
      refine xo_load0 T_ rfl rfl rfl (by repeat (first | exact List.Mem.head _ | apply List.Mem.tail | apply List.mem_append_right)) rfl rfl ?_
      refine xo_build TB_ rfl rfl rfl rfl rfl ?_
      refine xo_box rfl rfl rfl rfl (fun b30 => ?_)
      refine xo_mupd T_ rfl rfl rfl rfl rfl rfl (by repeat (first | exact List.Mem.head _ | apply List.Mem.tail | apply List.mem_append_right)) (by rw [imSet_stM hnew]; exact (by repeat (first | exact Upd.head | apply Upd.tail | apply Upd.app))) rfl ?_
      with_reducible refine xo_nil ?_
      with_reducible repeat (first | refine xq_then ?_ | refine xq_blockN ?_ | refine xq_scopeN ?_)
      with_reducible repeat refine xc_seq ?_
      with_reducible refine xc_region ?_
      refine xo_add rfl rfl rfl (by omega) rfl ?_
      refine xo_mv rfl rfl rfl ?_
      with_reducible refine xo_nil ?_
      with_reducible repeat (first | refine xq_then ?_ | refine xq_blockN ?_ | refine xq_scopeN ?_)
      rw [if_pos h3] at htk
      refine xq_perm (List.perm_append_singleton _ _).symm (xq_again _ _ _ _ _ (k + 1, L ++ [(x.f0, b30)]) ⟨hlt, by simp only [List.map_append, htk]; rfl⟩ (by first | omega | (simp only; omega)) ⟨rfl, rfl, rfl, rfl, rfl, rfl, trivial⟩ ?_)
      simp only [stH, List.map_append]
      exact List.Sublist.cons _ (List.Sublist.refl _)
    · have h3 : ¬ x.f1 = 3 := of_decide_eq_false h3
      with_reducible refine xc_skip ?_
      with_reducible repeat (first | refine xq_then ?_ | refine xq_blockN ?_ | refine xq_scopeN ?_)
      with_reducible repeat refine xc_seq ?_
      with_reducible refine xc_region ?_
      refine xo_add rfl rfl rfl (by omega) rfl ?_
      refine xo_mv rfl rfl rfl ?_
      with_reducible refine xo_nil ?_
      with_reducible repeat (first | refine xq_then ?_ | refine xq_blockN ?_ | refine xq_scopeN ?_)
      rw [if_neg h3, List.append_nil] at htk
      exact xq_again _ _ _ _ _ (k + 1, L) ⟨hlt, by simp only [htk]⟩ (by first | omega | (simp only; omega)) ⟨rfl, rfl, rfl, rfl, rfl, rfl, trivial⟩ (by repeat (first | exact List.Sublist.refl _ | apply List.Sublist.cons_cons | apply List.Sublist.cons | exact List.nil_sublist _))
  have hge : ¬ k < r.length := by have := of_decide_eq_false h; omega
  rw [List.take_of_length_le (by omega)] at hL
  have hnd : (L.map (·.1)).Nodup := by
    have := batches_nodup hs r.length (Nat.le_refl _)
    rw [List.take_of_length_le (Nat.le_refl _)] at this
    rw [hL]
    exact this
  have hst0 : stH (fun _ => st0) L = stH (storeF (m.take 0)) L := rfl
  rw [hst0]
  with_reducible refine xc_exit ?_
  with_reducible repeat (first | refine xq_blockX ?_ | refine xq_thenE ?_ | refine xq_blockE rfl ?_ | refine xq_scopeE ?_)
  with_reducible repeat (first | refine xq_then ?_ | refine xq_blockN ?_ | refine xq_scopeN ?_)
  with_reducible repeat refine xc_seq ?_
  with_reducible refine xc_region ?_
  refine xo_asg rfl rfl rfl ?_
  with_reducible refine xo_nil ?_
  with_reducible repeat (first | refine xq_then ?_ | refine xq_blockN ?_ | refine xq_scopeN ?_)
  with_reducible repeat refine xc_seq ?_
  with_reducible refine xc_region ?_
  refine xo_mv rfl rfl rfl ?_
  refine xo_len T_ rfl rfl rfl rfl ?_
  refine xo_mv rfl rfl rfl ?_
  with_reducible refine xo_nil ?_
  with_reducible repeat (first | refine xq_then ?_ | refine xq_blockN ?_ | refine xq_scopeN ?_)
  with_reducible repeat refine xc_seq ?_
  with_reducible refine xc_block ?_
  refine xc_loop (γ := Nat × Int) (fun q => q.1 ≤ m.length ∧ q.1 ≤ 40 ∧ -1 ≤ q.2 ∧ q.2 ≤ 9999 ∧ movesL (batchesF r) (-1) 0 m = movesL (batchesF r) q.2 (q.1 : Int) (m.drop q.1) ∧ ∀ x ∈ m.take q.1, 1 ≤ x.f3 ∧ x.f3 ≤ 100000) (fun q => [(6, .map (some b16)), (9, .int .i64 q.2), (32, .slice B m.length c'), (33, .int .i64 (m.length : Int)), (34, .int .i64 (q.1 : Int))])
    (fun q => (b16, true, hmap (stM L)) :: stH (storeF (m.take q.1)) L) (fun q => m.length - q.1) (0, -1) ⟨Nat.zero_le _, Nat.zero_le _, by simp, by simp, rfl, by simp⟩ ⟨rfl, rfl, rfl, rfl, rfl, trivial⟩ (by repeat (first | exact List.Sublist.refl _ | apply List.Sublist.cons_cons | apply List.Sublist.cons | exact List.nil_sublist _)) ?_
  rintro ⟨k, last⟩ ⟨hk1, hk40, hl0, hl1, hmv, hpc⟩
  simp only at hk1 hk40 hl0 hl1 hmv hpc ⊢
  with_reducible repeat refine xc_seq ?_
  with_reducible refine xc_region ?_
  refine xo_lss rfl rfl rfl rfl ?_
  with_reducible refine xo_nil ?_
  with_reducible repeat (first | refine xq_then ?_ | refine xq_blockN ?_ | refine xq_scopeN ?_)
  with_reducible repeat refine xc_seq ?_
  refine xc_cond rfl (fun h => ?_) (fun h => ?_)
  · have hlt : k < m.length := by have := of_decide_eq_true h; omega
    obtain ⟨ad, rfl, r1⟩ := mov_at hm k hlt
    have hby := hkm _ (getD_mem m zMov k hlt)
    have hsucc := fun id => storeF_succ hlt id
    have htake : ∀ x ∈ m.take (k + 1), x ∈ m.take k ∨ x = m.getD k zMov := fun x hx => by
      rw [List.take_succ_eq_append_getElem hlt] at hx
      rcases List.mem_append.1 hx with hx | hx
      · exact .inl hx
      · rw [List.mem_singleton] at hx
        right
        rw [hx]
        simp [List.getD_eq_getElem?_getD, List.getElem?_eq_getElem hlt]
    have hSB := fun id => storeF_B hpc id
    have htl : ((m.take k).length : Int) ≤ 40 := by simp; omega
    rw [drop_at m zMov k hlt, movesL] at hmv
    generalize m.getD k zMov = x at *
    with_reducible refine xc_skip ?_
    with_reducible repeat (first | refine xq_then ?_ | refine xq_blockN ?_ | refine xq_scopeN ?_)
    with_reducible repeat refine xc_seq ?_
    with_reducible refine xc_block ?_
    with_reducible repeat refine xc_seq ?_
    with_reducible refine xc_region ?_
    refine xo_mv rfl rfl rfl ?_
    refine xo_ia T_ rfl rfl rfl rfl rfl ⟨by omega, by omega⟩ rfl ?_
    refine xo_loadRN T_ rfl rfl rfl (by assumption) rfl rfl ?_
    refine xo_alloc T_ rfl rfl rfl rfl (fun b11 => ?_)
    refine xo_asg rfl rfl rfl ?_
    refine xo_store T_ rfl rfl rfl rfl (by repeat (first | exact List.Mem.head _ | apply List.Mem.tail | apply List.mem_append_right)) rfl rfl rfl rfl (by repeat (first | exact Upd.head | apply Upd.tail | apply Upd.app)) rfl ?_
    with_reducible refine xo_nil ?_
    with_reducible repeat (first | refine xq_then ?_ | refine xq_blockN ?_ | refine xq_scopeN ?_)
    rcases imGet_stM (L := L) (id := x.f1) with ⟨b, hb1, hb2⟩ | ⟨hb1, hb2⟩
    rotate_left
    · with_reducible repeat refine xc_seq ?_
      with_reducible refine xc_region ?_
      refine xo_mv rfl rfl rfl ?_
      refine xo_fa T_ rfl rfl rfl rfl rfl ?_
      refine xo_load0 T_ rfl rfl rfl (by repeat (first | exact List.Mem.head _ | apply List.Mem.tail | apply List.mem_append_right)) rfl rfl ?_
      refine xo_look2 T_ rfl rfl rfl rfl rfl rfl (by repeat (first | exact List.Mem.head _ | apply List.Mem.tail | apply List.mem_append_right)) (by rw [hb2]) (by rw [hb2]) rfl ?_
      refine xo_mv rfl rfl rfl ?_
      refine xo_ext rfl rfl rfl rfl ?_
      refine xo_ext rfl rfl rfl rfl ?_
      refine xo_asg rfl rfl rfl ?_
      refine xo_asg rfl rfl rfl ?_
      with_reducible refine xo_nil ?_
      with_reducible repeat (first | refine xq_then ?_ | refine xq_blockN ?_ | refine xq_scopeN ?_)
      with_reducible repeat refine xc_seq ?_
      with_reducible refine xc_region ?_
      refine xo_mv rfl rfl rfl ?_
      refine xo_notOp rfl rfl rfl ?_
      refine xo_mv rfl rfl rfl ?_
      first
        | refine xo_not rfl rfl ?_
        | (refine xo_mv rfl rfl rfl ?_)
      first
        | refine xo_not rfl rfl ?_
        | (refine xo_add rfl rfl rfl (by omega) rfl ?_)
      first
        | refine xo_not rfl rfl ?_
        | (refine xo_fa T_ rfl rfl rfl rfl rfl ?_)
      first
        | refine xo_not rfl rfl ?_
        | (refine xo_load0 T_ rfl rfl rfl (by repeat (first | exact List.Mem.head _ | apply List.Mem.tail | apply List.mem_append_right)) rfl rfl ?_)
      first
        | refine xo_not rfl rfl ?_
        | (refine xo_bs1 T_ rfl rfl rfl rfl rfl rfl rfl rfl (fun b53 => ?_))
      first
        | refine xo_not rfl rfl ?_
        | (skip)
      first
        | refine xo_not rfl rfl ?_
        | (refine xo_notOp rfl rfl rfl ?_)
      first | refine xo_pickT rfl rfl rfl rfl ?_ | refine xo_pickF rfl rfl rfl rfl ?_
      refine xo_mv rfl rfl rfl ?_
      first
        | refine xo_not rfl rfl ?_
        | (refine xo_fa T_ rfl rfl rfl rfl rfl ?_)
      first
        | refine xo_not rfl rfl ?_
        | (refine xo_load0 T_ rfl rfl rfl (by repeat (first | exact List.Mem.head _ | apply List.Mem.tail | apply List.mem_append_right)) rfl rfl ?_)
      first
        | refine xo_not rfl rfl ?_
        | (refine xo_conv T_ rfl rfl rfl rfl (IntWalk.i64_in _ ⟨by omega, by omega⟩) rfl ?_)
      first
        | refine xo_not rfl rfl ?_
        | (refine xo_bs1 T_ rfl rfl rfl rfl rfl rfl rfl rfl (fun b61 => ?_))
      first
        | refine xo_not rfl rfl ?_
        | (skip)
      first
        | refine xo_not rfl rfl ?_
        | (refine xo_notOp rfl rfl rfl ?_)
      first | refine xo_pickT rfl rfl rfl rfl ?_ | refine xo_pickF rfl rfl rfl rfl ?_
      refine xo_mv rfl rfl rfl ?_
      first
        | refine xo_not rfl rfl ?_
        | (refine xo_fa T_ rfl rfl rfl rfl rfl ?_)
      first
        | refine xo_not rfl rfl ?_
        | (refine xo_load0 T_ rfl rfl rfl (by repeat (first | exact List.Mem.head _ | apply List.Mem.tail | apply List.mem_append_right)) rfl rfl ?_)
      first
        | refine xo_not rfl rfl ?_
        | (refine xo_bs1 T_ rfl rfl rfl rfl rfl rfl rfl rfl (fun b68 => ?_))
      first
        | refine xo_not rfl rfl ?_
        | (skip)
      first
        | refine xo_not rfl rfl ?_
        | (refine xo_notOp rfl rfl rfl ?_)
      first | refine xo_pickT rfl rfl rfl rfl ?_ | refine xo_pickF rfl rfl rfl rfl ?_
      refine xo_mv rfl rfl rfl ?_
      first
        | refine xo_not rfl rfl ?_
        | (refine xo_mv rfl rfl rfl ?_)
      first
        | refine xo_not rfl rfl ?_
        | (refine xo_geq rfl rfl rfl rfl ?_)
      first | refine xo_pickT rfl rfl rfl rfl ?_ | refine xo_pickF rfl rfl rfl rfl ?_
      with_reducible refine xo_nil ?_
      with_reducible repeat (first | refine xq_then ?_ | refine xq_blockN ?_ | refine xq_scopeN ?_)
      with_reducible repeat refine xc_seq ?_
      refine xc_condT rfl ?_
      with_reducible repeat refine xc_seq ?_
      with_reducible refine xc_region ?_
      refine xo_asg rfl rfl rfl ?_
      refine xo_asg rfl rfl rfl ?_
      with_reducible refine xo_nil ?_
      with_reducible repeat (first | refine xq_then ?_ | refine xq_blockN ?_ | refine xq_scopeN ?_)
      with_reducible repeat refine xc_seq ?_
      with_reducible refine xc_ret ?_
      with_reducible repeat (first | refine xq_thenR ?_ | refine xq_blockR ?_ | refine xq_scopeR ?_)
      refine xq_ret2 rfl rfl rfl fun w' hw => .inl ⟨?_, rfl, hw.kx.below⟩
      rw [hL] at hb1
      rw [countF, hmv, decide_eq_false hb1]
      rfl
    · have hbin : decide (x.f1 ∈ batchesF r) = true := by rw [← hL]; exact decide_eq_true (List.mem_map.2 ⟨_, hb1, rfl⟩)
      with_reducible repeat refine xc_seq ?_
      with_reducible refine xc_region ?_
      refine xo_mv rfl rfl rfl ?_
      refine xo_fa T_ rfl rfl rfl rfl rfl ?_
      refine xo_load0 T_ rfl rfl rfl (by repeat (first | exact List.Mem.head _ | apply List.Mem.tail | apply List.mem_append_right)) rfl rfl ?_
      refine xo_look2 T_ rfl rfl rfl rfl rfl rfl (by repeat (first | exact List.Mem.head _ | apply List.Mem.tail | apply List.mem_append_right)) (by rw [hb2]) (by rw [hb2]) rfl ?_
      refine xo_mv rfl rfl rfl ?_
      refine xo_ext rfl rfl rfl rfl ?_
      refine xo_ext rfl rfl rfl rfl ?_
      refine xo_asg rfl rfl rfl ?_
      refine xo_asg rfl rfl rfl ?_
      with_reducible refine xo_nil ?_
      with_reducible repeat (first | refine xq_then ?_ | refine xq_blockN ?_ | refine xq_scopeN ?_)
      cases h1 : !inF (last + 1) 9999 x.f0 <;> cases h2 : !inF 1 5 x.f2 <;> cases h3 : !inF 1 100000 x.f3 <;> cases h4 : decide (40 ≤ (k : Int))
      all_goals
        with_reducible repeat refine xc_seq ?_
        with_reducible refine xc_region ?_
        refine xo_mv rfl rfl rfl ?_
        refine xo_notOp rfl rfl rfl ?_
        refine xo_mv rfl rfl rfl ?_
        first
          | refine xo_not rfl rfl ?_
          | (refine xo_mv rfl rfl rfl ?_)
        first
          | refine xo_not rfl rfl ?_
          | (refine xo_add rfl rfl rfl (by omega) rfl ?_)
        first
          | refine xo_not rfl rfl ?_
          | (refine xo_fa T_ rfl rfl rfl rfl rfl ?_)
        first
          | refine xo_not rfl rfl ?_
          | (refine xo_load0 T_ rfl rfl rfl (by repeat (first | exact List.Mem.head _ | apply List.Mem.tail | apply List.mem_append_right)) rfl rfl ?_)
        first
          | refine xo_not rfl rfl ?_
          | (refine xo_bs1 T_ rfl rfl rfl rfl rfl rfl rfl rfl (fun b53 => ?_))
        first
          | refine xo_not rfl rfl ?_
          | (refine xo_callB (fs := []) (cs := []) rfl rfl rfl in_enters rfl (fun w1 hw1 => in_calls hw1 _ _ _ (by repeat (first | exact List.Mem.head _ | apply List.Mem.tail | apply List.mem_append_right))) ?_)
        first
          | refine xo_not rfl rfl ?_
          | (refine xo_notOp rfl rfl rfl ?_)
        refine xo_as (i := 55) rfl (congrArg Value.bool h1) ?_
        first | refine xo_pickT rfl rfl rfl rfl ?_ | refine xo_pickF rfl rfl rfl rfl ?_
        refine xo_mv rfl rfl rfl ?_
        first
          | refine xo_not rfl rfl ?_
          | (refine xo_fa T_ rfl rfl rfl rfl rfl ?_)
        first
          | refine xo_not rfl rfl ?_
          | (refine xo_load0 T_ rfl rfl rfl (by repeat (first | exact List.Mem.head _ | apply List.Mem.tail | apply List.mem_append_right)) rfl rfl ?_)
        first
          | refine xo_not rfl rfl ?_
          | (refine xo_conv T_ rfl rfl rfl rfl (IntWalk.i64_in _ ⟨by omega, by omega⟩) rfl ?_)
        first
          | refine xo_not rfl rfl ?_
          | (refine xo_bs1 T_ rfl rfl rfl rfl rfl rfl rfl rfl (fun b61 => ?_))
        first
          | refine xo_not rfl rfl ?_
          | (refine xo_callB (fs := []) (cs := []) rfl rfl rfl in_enters rfl (fun w1 hw1 => in_calls hw1 _ _ _ (by repeat (first | exact List.Mem.head _ | apply List.Mem.tail | apply List.mem_append_right))) ?_)
        first
          | refine xo_not rfl rfl ?_
          | (refine xo_notOp rfl rfl rfl ?_)
        first | refine xo_as (i := 63) rfl (congrArg Value.bool h2) ?_ | skip
        first | refine xo_pickT rfl rfl rfl rfl ?_ | refine xo_pickF rfl rfl rfl rfl ?_
        refine xo_mv rfl rfl rfl ?_
        first
          | refine xo_not rfl rfl ?_
          | (refine xo_fa T_ rfl rfl rfl rfl rfl ?_)
        first
          | refine xo_not rfl rfl ?_
          | (refine xo_load0 T_ rfl rfl rfl (by repeat (first | exact List.Mem.head _ | apply List.Mem.tail | apply List.mem_append_right)) rfl rfl ?_)
        first
          | refine xo_not rfl rfl ?_
          | (refine xo_bs1 T_ rfl rfl rfl rfl rfl rfl rfl rfl (fun b68 => ?_))
        first
          | refine xo_not rfl rfl ?_
          | (refine xo_callB (fs := []) (cs := []) rfl rfl rfl in_enters rfl (fun w1 hw1 => in_calls hw1 _ _ _ (by repeat (first | exact List.Mem.head _ | apply List.Mem.tail | apply List.mem_append_right))) ?_)
        first
          | refine xo_not rfl rfl ?_
          | (refine xo_notOp rfl rfl rfl ?_)
        first | refine xo_as (i := 70) rfl (congrArg Value.bool h3) ?_ | skip
        first | refine xo_pickT rfl rfl rfl rfl ?_ | refine xo_pickF rfl rfl rfl rfl ?_
        refine xo_mv rfl rfl rfl ?_
        first
          | refine xo_not rfl rfl ?_
          | (refine xo_mv rfl rfl rfl ?_)
        first
          | refine xo_not rfl rfl ?_
          | (refine xo_geq rfl rfl rfl rfl ?_)
        first | refine xo_pickT rfl rfl rfl rfl ?_ | refine xo_pickF rfl rfl rfl rfl ?_
        first | refine xo_as (i := 75) rfl (congrArg Value.bool h4) ?_ | skip
        with_reducible refine xo_nil ?_
        with_reducible repeat (first | refine xq_then ?_ | refine xq_blockN ?_ | refine xq_scopeN ?_)
        with_reducible repeat refine xc_seq ?_
        first | refine xc_condT rfl ?_ | refine xc_condF rfl ?_
      rotate_left
      iterate 15
        · with_reducible repeat refine xc_seq ?_
          with_reducible refine xc_region ?_
          refine xo_asg rfl rfl rfl ?_
          refine xo_asg rfl rfl rfl ?_
          with_reducible refine xo_nil ?_
          with_reducible repeat (first | refine xq_then ?_ | refine xq_blockN ?_ | refine xq_scopeN ?_)
          with_reducible repeat refine xc_seq ?_
          with_reducible refine xc_ret ?_
          with_reducible repeat (first | refine xq_thenR ?_ | refine xq_blockR ?_ | refine xq_scopeR ?_)
          refine xq_ret2 rfl rfl rfl fun w' hw => .inl ⟨?_, rfl, hw.kx.below⟩
          simp only [Bool.not_eq_true', Bool.not_eq_false'] at h1 h2 h3
          rw [countF, hmv]
          simp only [hbin, h1, h2, h3, h4, Bool.false_and, Bool.and_false, Bool.not_true, Bool.not_false, Bool.true_and, Bool.and_true]
      simp only [Bool.not_eq_true', Bool.not_eq_false'] at h1 h2 h3
      have hx0 : last + 1 ≤ x.f0 ∧ x.f0 ≤ 9999 := by simpa [inF] using h1
      have hx2 : 1 ≤ x.f2 ∧ x.f2 ≤ 5 := by simpa [inF] using h2
      have hx3 : 1 ≤ x.f3 ∧ x.f3 ≤ 100000 := by simpa [inF] using h3
      have hk4 : ¬ 40 ≤ (k : Int) := of_decide_eq_false h4
      have hrg : RO w XNone ((⟨0, 0, none⟩ : Addr).add (x.f2.toNat * szN 0)) [.func (.func (addsId x.f2)) #[] #[]] := ro1 (by
        rw [Addr.add_lit, show 0 + x.f2.toNat * szN 0 = x.f2.toNat by simp [szN]]
        exact hglob x.f2 hx2.1 hx2.2)
      have hupd := stH_upd (f := storeF (m.take k)) (f' := storeF (m.take (k + 1))) hb1 hnd (fun id hne => by rw [hsucc, if_neg (fun e => hne e.symm)])
      rw [hsucc x.f1, if_pos rfl] at hupd
      with_reducible refine xc_skip ?_
      with_reducible repeat (first | refine xq_then ?_ | refine xq_blockN ?_ | refine xq_scopeN ?_)
      refine xc_sub (η' := (b11, true, cel (movV x) 54) :: (b16, true, hmap (stM L)) :: stH (storeF (m.take k)) L) (by repeat (first | exact List.Sublist.refl _ | apply List.Sublist.cons_cons | apply List.Sublist.cons | exact List.nil_sublist _)) ?_
      with_reducible repeat refine xc_seq ?_
      apply xc_drawE (fun g => []) (fun (η0 : Hp) g => match g with | [] => (η0) | a0 :: _ => ((b11, true, cel (movV x) 54) :: (b16, true, hmap (stM L)) :: stH (storeF (m.take (k + 1))) L)) (fun _ => True) [0, 0, 0, 0, 0, 0, 0, 1] [7] [[3, 4, 6]] (by trivial)
      apply SameLen.cons
      apply SameLen.cons
      apply SameLen.cons
      apply SameLen.cons
      apply SameLen.cons
      apply SameLen.cons
      apply SameLen.cons
      apply SameLen.cons
      exact SameLen.nil
      rotate_left 8
      case hH0 => rfl
      case hmix => exact T_.mixed
      case hbind => rfl
      case hdeps => rfl
      case hdist => rfl
      case hfresh => rfl
      case hE => rfl
      case hEn => decide
      · refine DrawE.pure 0 1 rfl (.inl rfl) (fun L g hg hd => Nat.zero_le _) (fun g hlo hhi hF τ => ?_) ?_
        · rcases g with _ | ⟨a0, _ | ⟨a1, g⟩⟩
          all_goals first
            | (exfalso; simp only [List.length_cons, List.length_nil] at hlo hhi; omega)
            | (refine ⟨_, rfl, ?_⟩
               refine xo_fa T_ rfl rfl rfl rfl rfl ?_
               exact xo_fin rfl)
        refine DrawE.pure 0 1 rfl (.inl rfl) (fun L g hg hd => Nat.zero_le _) (fun g hlo hhi hF τ => ?_) ?_
        · rcases g with _ | ⟨a0, _ | ⟨a1, g⟩⟩
          all_goals first
            | (exfalso; simp only [List.length_cons, List.length_nil] at hlo hhi; omega)
            | (refine ⟨_, rfl, ?_⟩
               refine xo_load0 T_ rfl rfl rfl (by repeat (first | exact List.Mem.head _ | apply List.Mem.tail | apply List.mem_append_right)) rfl rfl ?_
               exact xo_fin rfl)
        refine DrawE.pure 0 1 rfl (.inl rfl) (fun L g hg hd => Nat.zero_le _) (fun g hlo hhi hF τ => ?_) ?_
        · rcases g with _ | ⟨a0, _ | ⟨a1, g⟩⟩
          all_goals first
            | (exfalso; simp only [List.length_cons, List.length_nil] at hlo hhi; omega)
            | (refine ⟨_, rfl, ?_⟩
               refine xo_iaA T_ rfl Tryd.underlying107 rfl rfl rfl ⟨by omega, by omega⟩ rfl ?_
               exact xo_fin rfl)
        refine DrawE.pure 0 0 rfl (.inr (by decide)) (fun L g hg hd => Nat.zero_le _) (fun g hlo hhi hF τ => ?_) ?_
        · rcases g with _ | ⟨a0, _ | ⟨a1, g⟩⟩
          all_goals first
            | (exfalso; simp only [List.length_cons, List.length_nil] at hlo hhi; omega)
            | (refine ⟨_, rfl, ?_⟩
               refine xo_loadR0 T_ rfl rfl rfl hrg rfl ?_
               exact xo_fin rfl)
        refine DrawE.pure 0 0 rfl (.inr (by decide)) (fun L g hg hd => Nat.zero_le _) (fun g hlo hhi hF τ => ?_) ?_
        · rcases g with _ | ⟨a0, _ | ⟨a1, g⟩⟩
          all_goals first
            | (exfalso; simp only [List.length_cons, List.length_nil] at hlo hhi; omega)
            | (refine ⟨_, rfl, ?_⟩
               refine xo_mv rfl rfl rfl ?_
               exact xo_fin rfl)
        refine DrawE.pure 0 1 rfl (.inl rfl) (fun L g hg hd => Nat.zero_le _) (fun g hlo hhi hF τ => ?_) ?_
        · rcases g with _ | ⟨a0, _ | ⟨a1, g⟩⟩
          all_goals first
            | (exfalso; simp only [List.length_cons, List.length_nil] at hlo hhi; omega)
            | (refine ⟨_, rfl, ?_⟩
               refine xo_fa T_ rfl rfl rfl rfl rfl ?_
               exact xo_fin rfl)
        refine DrawE.pure 0 0 rfl (.inr (by decide)) (fun L g hg hd => Nat.zero_le _) (fun g hlo hhi hF τ => ?_) ?_
        · rcases g with _ | ⟨a0, _ | ⟨a1, g⟩⟩
          all_goals first
            | (exfalso; simp only [List.length_cons, List.length_nil] at hlo hhi; omega)
            | (refine ⟨_, rfl, ?_⟩
               refine xo_load0 T_ rfl rfl rfl (by repeat (first | exact List.Mem.head _ | apply List.Mem.tail | apply List.mem_append_right)) rfl rfl ?_
               exact xo_fin rfl)
        refine DrawE.eff 0 rfl (by decide) rfl (fun j hj => hj) (fun j g a hj => ?_) (fun L g hg hd => Nat.zero_le _) (fun g hgl hF τ => ?_) ?_
        · rcases j with _ | _ | _ | _ | _ | _ | _ | _ | j
          all_goals first | rfl | (rcases g with _ | ⟨a0, _ | ⟨a1, g⟩⟩ <;> first | rfl | exact absurd hj (by decide) | exact absurd hj (by simp [List.getD]))
        · obtain rfl : g = [] := by
            rcases g with _ | ⟨a0, g⟩ <;> first | rfl | (exfalso; simp only [List.length_cons, List.length_nil] at hgl; omega)
          refine xo_call (fs := []) (cs := []) rfl rfl rfl (adds_enters hx2) rfl (fun w1 hw1 => ?_)
          obtain ⟨o1, ho1, ho2⟩ := hw1.bl _ (List.Mem.tail _ (List.Mem.tail _ (stH_mem hb1)))
          refine (adds_calls hx2 _ _ x.f3 (hSB x.f1) (by omega) ⟨by omega, by omega⟩ b w1 o1 ho1 ho2).mono ?_
          rintro e w2 ⟨rfl, hk3, o3, ho3, ho4⟩
          refine ⟨_, _, rfl, hw1.updK (Upd.tail (Upd.tail hupd)) hk3 ho3 ho4, ?_⟩
          exact xo_finE gv0 rfl trivial
        exact DrawE.nil
      intro g hgl hF
      obtain ⟨a0, rfl⟩ : ∃ a0, g = [a0] := by
        rcases g with _ | ⟨a0, _ | ⟨a1, g⟩⟩ <;> first | exact ⟨_, rfl⟩ | (exfalso; simp only [List.length_cons, List.length_nil] at hgl; omega)
      with_reducible repeat (first | refine xq_then ?_ | refine xq_blockN ?_ | refine xq_scopeN ?_)
      with_reducible repeat refine xc_seq ?_
      with_reducible refine xc_region ?_
      refine xo_fa T_ rfl rfl rfl rfl rfl ?_
      refine xo_load0 T_ rfl rfl rfl (by repeat (first | exact List.Mem.head _ | apply List.Mem.tail | apply List.mem_append_right)) rfl rfl ?_
      refine xo_asg rfl rfl rfl ?_
      with_reducible refine xo_nil ?_
      with_reducible repeat (first | refine xq_then ?_ | refine xq_blockN ?_ | refine xq_scopeN ?_)
      with_reducible repeat refine xc_seq ?_
      with_reducible refine xc_region ?_
      refine xo_add rfl rfl rfl (by omega) rfl ?_
      refine xo_mv rfl rfl rfl ?_
      with_reducible refine xo_nil ?_
      with_reducible repeat (first | refine xq_then ?_ | refine xq_blockN ?_ | refine xq_scopeN ?_)
      refine xq_again _ _ _ _ _ (k + 1, x.f0) ⟨hlt, by simp only; omega, by simp only; omega, hx0.2, ?_, fun y hy => ?_⟩ (by first | omega | (simp only; omega)) ⟨rfl, rfl, rfl, rfl, rfl, trivial⟩ (by repeat (first | exact List.Sublist.refl _ | apply List.Sublist.cons_cons | apply List.Sublist.cons | exact List.nil_sublist _))
      · rw [hmv]
        simp only [hbin, h1, h2, h3, h4, Bool.not_false, Bool.true_and, Bool.and_self]
        rfl
      · rcases htake y hy with hy | rfl
        · exact hpc y hy
        · exact hx3
  have hge : ¬ k < m.length := by have := of_decide_eq_false h; omega
  rw [List.take_of_length_le (by omega)]
  rw [List.drop_of_length_le (by omega), movesL] at hmv
  with_reducible refine xc_exit ?_
  with_reducible repeat (first | refine xq_blockX ?_ | refine xq_thenE ?_ | refine xq_blockE rfl ?_ | refine xq_scopeE ?_)
  with_reducible repeat (first | refine xq_then ?_ | refine xq_blockN ?_ | refine xq_scopeN ?_)
  with_reducible repeat refine xc_seq ?_
  with_reducible refine xc_region ?_
  refine xo_mv rfl rfl rfl ?_
  refine xo_rangeM T_ rfl rfl rfl (by repeat (first | exact List.Mem.head _ | apply List.Mem.tail | apply List.mem_append_right)) (fun es c => Rep.head) rfl (fun b88 es cl hE => ?_)
  with_reducible refine xo_nil ?_
  with_reducible repeat (first | refine xq_then ?_ | refine xq_blockN ?_ | refine xq_scopeN ?_)
  with_reducible repeat refine xc_seq ?_
  with_reducible refine xc_block ?_
  refine xc_loop (γ := Array Nat) (fun q => ∀ e ∈ es.toList, q.contains e.born = true → ∀ id, e.key = .int .i64 id → okS (storeF m id) = true) (fun q => [(6, .map (some b16)), (88, .pointer (some ⟨b88, 0, none⟩))])
    (fun q => (b88, true, hiter b16 cl q) :: (b16, true, hmapE es cl) :: stH (storeF m) L) (fun q => unseen es q) #[] (fun e _ h => by simp at h) ⟨rfl, rfl, trivial⟩ (by repeat (first | exact List.Sublist.refl _ | apply List.Sublist.cons_cons | apply List.Sublist.cons | exact List.nil_sublist _)) ?_
  intro seen hseen
  with_reducible repeat refine xc_seq ?_
  with_reducible refine xc_region ?_
  refine xo_next rfl rfl (by repeat (first | exact List.Mem.head _ | apply List.Mem.tail | apply List.mem_append_right)) (by repeat (first | exact List.Mem.head _ | apply List.Mem.tail | apply List.mem_append_right)) hE (fun seen' => Upd.head) rfl (fun hall => ?_) (fun e he hns => ?_)
  · have hcnt : countF r m = true := by
      rw [countF, hmv, Bool.true_and, List.all_eq_true]
      intro id hid
      rw [← hL] at hid
      obtain ⟨p, hp, rfl⟩ := List.mem_map.1 hid
      obtain ⟨e, he, hke⟩ := hE.stM' hp
      exact hseen e he (hall e he) _ hke
    refine xo_ext rfl rfl rfl rfl ?_
    with_reducible refine xo_nil ?_
    with_reducible repeat (first | refine xq_then ?_ | refine xq_blockN ?_ | refine xq_scopeN ?_)
    with_reducible repeat refine xc_seq ?_
    refine xc_condF rfl ?_
    with_reducible refine xc_exit ?_
    with_reducible repeat (first | refine xq_blockX ?_ | refine xq_thenE ?_ | refine xq_blockE rfl ?_ | refine xq_scopeE ?_)
    refine xq_rep (b := b16) (by repeat (first | exact List.Mem.head _ | apply List.Mem.tail | apply List.mem_append_right)) (fun o h => hmapE_hmap hE h) (Rep.tail Rep.head) ?_
    with_reducible repeat (first | refine xq_then ?_ | refine xq_blockN ?_ | refine xq_scopeN ?_)
    with_reducible repeat refine xc_seq ?_
    with_reducible refine xc_region ?_
    refine xo_mv rfl rfl rfl ?_
    refine xo_asg rfl rfl rfl ?_
    refine xo_asg rfl rfl rfl ?_
    with_reducible refine xo_nil ?_
    with_reducible repeat (first | refine xq_then ?_ | refine xq_blockN ?_ | refine xq_scopeN ?_)
    with_reducible repeat refine xc_seq ?_
    with_reducible refine xc_ret ?_
    with_reducible repeat (first | refine xq_thenR ?_ | refine xq_blockR ?_ | refine xq_scopeR ?_)
    exact xq_ret2 rfl rfl rfl fun w' hw => .inr ⟨hcnt, b16, L, rfl, hL, hw.sub (List.sublist_cons_self _ _)⟩
  · obtain ⟨p, hp, hk1, hk2⟩ := hE.stM he
    obtain ⟨id, b⟩ := p
    simp only at hk1 hk2
    have hbad : okS (storeF m id) = false → countF r m = false := fun h => by
      rw [countF, Bool.and_eq_false_iff]
      right
      rw [List.all_eq_false]
      exact ⟨id, by rw [← hL]; exact List.mem_map.2 ⟨_, hp, rfl⟩, by rw [h]; simp⟩
    rw [hk1, hk2]
    refine xo_ext rfl rfl rfl rfl ?_
    with_reducible refine xo_nil ?_
    with_reducible repeat (first | refine xq_then ?_ | refine xq_blockN ?_ | refine xq_scopeN ?_)
    with_reducible repeat refine xc_seq ?_
    refine xc_condT rfl ?_
    with_reducible refine xc_skip ?_
    with_reducible repeat (first | refine xq_then ?_ | refine xq_blockN ?_ | refine xq_scopeN ?_)
    with_reducible repeat refine xc_seq ?_
    with_reducible refine xc_block ?_
    with_reducible repeat refine xc_seq ?_
    with_reducible refine xc_region ?_
    refine xo_entry rfl rfl (by repeat (first | exact List.Mem.head _ | apply List.Mem.tail | apply List.mem_append_right)) (by repeat (first | exact List.Mem.head _ | apply List.Mem.tail | apply List.mem_append_right)) hE he rfl ?_
    rw [hk1, hk2]
    refine xo_ext rfl rfl rfl rfl ?_
    refine xo_asg rfl rfl rfl ?_
    with_reducible refine xo_nil ?_
    with_reducible repeat (first | refine xq_then ?_ | refine xq_blockN ?_ | refine xq_scopeN ?_)
    cases h5 : decide ((storeF m id).d < (storeF m id).b) <;> cases h6 : decide ((storeF m id).l < 0)
    all_goals
      with_reducible repeat refine xc_seq ?_
      apply xc_drawN
      · exact T_.mixed
      · rfl
      · rfl
      · rfl
      · rfl
      · apply DrawOps.cons
        · intro τ
          refine xo_mv rfl rfl rfl ?_
          exact xo_fin rfl
        apply DrawOps.cons
        · intro τ
          refine xo_nilck rfl rfl rfl ?_
          exact xo_fin rfl
        apply DrawOps.cons
        · intro τ
          refine xo_fa T_ rfl rfl rfl rfl rfl ?_
          exact xo_fin rfl
        apply DrawOps.cons
        · intro τ
          refine xo_load0 T_ rfl rfl rfl (List.Mem.tail _ (List.Mem.tail _ (stH_mem hp))) rfl rfl ?_
          exact xo_fin rfl
        apply DrawOps.cons
        · intro τ
          refine xo_mv rfl rfl rfl ?_
          exact xo_fin rfl
        apply DrawOps.cons
        · intro τ
          refine xo_nilck rfl rfl rfl ?_
          exact xo_fin rfl
        apply DrawOps.cons
        · intro τ
          refine xo_fa T_ rfl rfl rfl rfl rfl ?_
          exact xo_fin rfl
        apply DrawOps.cons
        · intro τ
          refine xo_load0 T_ rfl rfl rfl (List.Mem.tail _ (List.Mem.tail _ (stH_mem hp))) rfl rfl ?_
          exact xo_fin rfl
        apply DrawOps.cons
        · intro τ
          refine xo_gtr rfl rfl rfl rfl ?_
          first
            | exact xo_fin (congrArg Value.bool h5)
            | exact xo_fin rfl
        apply DrawOps.cons
        · intro τ
          refine xo_mv rfl rfl rfl ?_
          exact xo_fin rfl
        apply DrawOps.cons
        · intro τ
          first
            | refine xo_not rfl rfl ?_
            | (refine xo_mv rfl rfl rfl ?_)
          exact xo_fin rfl
        apply DrawOps.cons
        · intro τ
          first
            | refine xo_not rfl rfl ?_
            | (refine xo_nilck rfl rfl rfl ?_)
          exact xo_fin rfl
        apply DrawOps.cons
        · intro τ
          first
            | refine xo_not rfl rfl ?_
            | (refine xo_fa T_ rfl rfl rfl rfl rfl ?_)
          exact xo_fin rfl
        apply DrawOps.cons
        · intro τ
          first
            | refine xo_not rfl rfl ?_
            | (refine xo_load0 T_ rfl rfl rfl (List.Mem.tail _ (List.Mem.tail _ (stH_mem hp))) rfl rfl ?_)
          exact xo_fin rfl
        apply DrawOps.cons
        · intro τ
          first
            | refine xo_not rfl rfl ?_
            | (refine xo_lss rfl rfl rfl rfl ?_)
          first
            | exact xo_fin (congrArg Value.bool h6)
            | exact xo_fin rfl
        apply DrawOps.cons
        · intro τ
          first | refine xo_pickT rfl rfl rfl rfl ?_ | refine xo_pickF rfl rfl rfl rfl ?_
          exact xo_fin rfl
        exact DrawOps.nil
      · rfl
      with_reducible repeat (first | refine xq_then ?_ | refine xq_blockN ?_ | refine xq_scopeN ?_)
      with_reducible repeat refine xc_seq ?_
      first | refine xc_condT rfl ?_ | refine xc_condF rfl ?_
    rotate_left
    iterate 3
      · with_reducible repeat refine xc_seq ?_
        with_reducible refine xc_region ?_
        refine xo_asg rfl rfl rfl ?_
        refine xo_asg rfl rfl rfl ?_
        with_reducible refine xo_nil ?_
        with_reducible repeat (first | refine xq_then ?_ | refine xq_blockN ?_ | refine xq_scopeN ?_)
        with_reducible repeat refine xc_seq ?_
        with_reducible refine xc_ret ?_
        with_reducible repeat (first | refine xq_thenR ?_ | refine xq_blockR ?_ | refine xq_scopeR ?_)
        exact xq_ret2 rfl rfl rfl fun w' hw => .inl ⟨hbad (by rw [okS, h5, h6]; rfl), rfl, hw.kx.below⟩
    with_reducible refine xc_skip ?_
    with_reducible repeat (first | refine xq_then ?_ | refine xq_blockN ?_ | refine xq_scopeN ?_)
    refine xq_again _ _ _ _ _ (seen.push e.born) (fun e' he' hc id' hid' => ?_) (unseen_lt he hns) ⟨rfl, rfl, trivial⟩ (by repeat (first | exact List.Sublist.refl _ | apply List.Sublist.cons_cons | apply List.Sublist.cons | exact List.nil_sublist _))
    simp at hc
    rcases hc with hc | hc
    · exact hseen e' he' (by simpa using hc) id' hid'
    · have hee : e' = e := once_eq hE he' he hc
      subst hee
      rw [hk1] at hid'
      injection hid' with _ hid'
      subst hid'
      rw [okS, h5, h6]
      rfl
theorem count_enters : ∀ args w, (callFunc 42 args).run Tryd.prog w = .ok (.enter 42 args) w := enters_of Tryd.func42 (by kernel_rfl) rfl
end Go.Proofs.YtcmepdamemnbkaaDoor
namespace Go.Proofs.YtcmepdamemnbkaaDoor
open Go.RowKit Go.Proofs.YtcmepdamemnbkaaDoorW.PrintWords
set_option linter.unusedVariables false
set_option linter.unusedSimpArgs false
theorem eqSt (d : Nat) (w : World) (x y : StT) :
    (Op.equalIn (d + 2) 27 (.agg (stV x).toArray) (.agg (stV y).toArray)).run Tryd.prog w = .ok (x.a == y.a && (x.b == y.b && (x.c == y.c && (x.d == y.d && (x.e == y.e && (x.l == y.l)))))) w := by
  refine eqA_of Tryd.underlying27 (by kernel_rfl) ?_
  refine eqf_cons (by rfl) (by go_simp; rfl) (by go_simp; rfl) (by go_simp) ?_
  refine eqf_cons (by rfl) (by go_simp; rfl) (by go_simp; rfl) (by go_simp) ?_
  refine eqf_cons (by rfl) (by go_simp; rfl) (by go_simp; rfl) (by go_simp) ?_
  refine eqf_cons (by rfl) (by go_simp; rfl) (by go_simp; rfl) (by go_simp) ?_
  refine eqf_cons (by rfl) (by go_simp; rfl) (by go_simp; rfl) (by go_simp) ?_
  exact eqf_last (by rfl) (by go_simp; rfl) (by go_simp; rfl) (by go_simp)
def stEq (x y : StT) : Bool := x.a == y.a && (x.b == y.b && (x.c == y.c && (x.d == y.d && (x.e == y.e && (x.l == y.l)))))
theorem stEq_iff {x y : StT} : stEq x y = true ↔ x = y := by
  unfold stEq
  simp only [Bool.and_eq_true, beq_iff_eq]
  constructor
  · rintro ⟨h1, h2, h3, h4, h5, h6⟩
    obtain ⟨a, b, c, d, e, l⟩ := x
    obtain ⟨a', b', c', d', e', l'⟩ := y
    simp only at h1 h2 h3 h4 h5 h6
    subst h1 h2 h3 h4 h5 h6
    rfl
  · rintro rfl
    exact ⟨rfl, rfl, rfl, rfl, rfl, rfl⟩
section
variable {ro : Option Nat} {n N : Nat} {ds : List Deferred} {w0 : World} {X : Nat → Prop} {Q : Exit → Act → World → Prop} {σ : Slots} {η : Hp} {ops rest : List Oper} {d : Option Tmp} {ty pos aft} {g : Option (Nat × Bool)}
attribute [local go_sem high] eqSt
theorem xo_neqSt {u v : Operand} {t' : TypeId} {a b : StT} (hg : gS ops σ g = some true) (hx : ev σ u = some (.agg (stV a).toArray)) (hy : ev σ v = some (.agg (stV b).toArray)) (hN : dstOK N d = true)
    (h : XO Tryd.prog ro n N ds w0 X Q ops (putS d (.bool (!stEq a b)) σ) η rest) : XO Tryd.prog ro n N ds w0 X Q ops σ η (⟨d, .binOp .neq 27 u v t', ty, pos, aft, g⟩ :: rest) :=
  xo_val _ rfl hg hN (fun _ w ha hw => by
    simp only [execOp, ha.ev hx, ha.ev hy, stEq]
    go_simp) h
theorem xo_eqlSt {u v : Operand} {t' : TypeId} {a b : StT} (hg : gS ops σ g = some true) (hx : ev σ u = some (.agg (stV a).toArray)) (hy : ev σ v = some (.agg (stV b).toArray)) (hN : dstOK N d = true)
    (h : XO Tryd.prog ro n N ds w0 X Q ops (putS d (.bool (stEq a b)) σ) η rest) : XO Tryd.prog ro n N ds w0 X Q ops σ η (⟨d, .binOp .eql 27 u v t', ty, pos, aft, g⟩ :: rest) :=
  xo_val _ rfl hg hN (fun _ w ha hw => by
    simp only [execOp, ha.ev hx, ha.ev hy, stEq]
    go_simp) h
end
/-- what Pieces answers -/
def addS (s t : StT) : StT := ⟨s.a + t.a, s.b + t.b, s.c + t.c, s.d + t.d, s.e + t.e, s.l + t.l⟩
theorem addS_zero (s : StT) : addS s st0 = s := by simp [addS, st0]
def wayP (id : Int) (come : List Int) (way : List Int) : Bool := way.any fun n => decide (n = id) || decide (n ∈ come)
def fromF (id : Int) (come : List Int) (x : RecT) : Bool := decide (x.f0 = id) || x.f2.any (wayP id come)
def piecesL (m : List MovT) (id : Int) : List Int → StT → List RecT → StT
  | _, s, [] => s
  | come, s, x :: r => if fromF id come x && decide (x.f1 = 3) then piecesL m id (insN x.f0 come) (addS s (storeF m x.f0)) r else piecesL m id come s r
def piecesC (r : List RecT) (m : List MovT) (id : Int) : Int := if recordedF r then (if countF r m then (if knownF r id then 0 else 6) else 82) else 80
def piecesR (r : List RecT) (m : List MovT) (id : Int) : StT := if piecesC r m id = 0 then piecesL m id [] st0 r else st0
theorem StB.add {s t : StT} {B C : Int} (h : StB s B) (k : StB t C) : StB (addS s t) (B + C) := by
  unfold StB addS at *
  simp only at *
  omega
theorem batch_mem {r : List RecT} (hs : SortedIds r) {k : Nat} (hk : k < r.length) : decide ((r.getD k zRec).f0 ∈ batchesF r) = decide ((r.getD k zRec).f1 = 3) := by
  rw [decide_eq_decide]
  constructor
  · intro h
    simp only [batchesF, List.mem_map, List.mem_filter, decide_eq_true_eq] at h
    obtain ⟨x, ⟨h1, h2⟩, h3⟩ := h
    obtain ⟨j, hj, rfl⟩ := List.getElem_of_mem h1
    have e1 : r[j] = r.getD j zRec := by simp [List.getD_eq_getElem?_getD, List.getElem?_eq_getElem hj]
    have := sorted_inj hs hj hk (by rw [idAt, idAt, ← e1]; exact h3)
    subst this
    rw [← e1]
    exact h2
  · intro h
    simp only [batchesF, List.mem_map, List.mem_filter, decide_eq_true_eq]
    exact ⟨_, ⟨getD_mem r zRec k hk, h⟩, rfl⟩
theorem count_B {r : List RecT} {m : List MovT} (h : countF r m = true) (id : Int) : StB (storeF m id) 4000000 := by
  rw [countF, Bool.and_eq_true] at h
  have h1 := movesL_mem m _ _ h.1
  have h2 := movesL_len m _ _ h.1
  refine (storeF_B (fun x hx => (h1 x hx).2.2) id).mono ?_
  rcases h2 with h2 | rfl
  · omega
  · simp
theorem pieces1_calls (x id : Int) (S : List Int) (b5 b10 M : Nat) (w : World) (h5 : w.cell? ⟨b5, 0, none⟩ = some (.int .i64 id)) (h10 : w.cell? ⟨b10, 0, none⟩ = some (.map (some M))) (hM : IMap w M (setV S)) :
    Calls Tryd.prog 45 #[.int .i64 x, .pointer (some ⟨b5, 0, none⟩), .pointer (some ⟨b10, 0, none⟩)] w fun e w' => e = .returned (.bool (decide (x = id) || decide (x ∈ S))) ∧ Below w.heap.size w w' := by
  have r1 := ro1 h5
  have r2 := ro1 h10
  refine x_callsH (X := XNone) Tryd.func45 rfl rfl rfl (WOK.startM XNone hM) ?_
  with_reducible repeat refine xc_seq ?_
  with_reducible refine xc_region ?_
  refine xo_asg rfl rfl rfl ?_
  with_reducible refine xo_nil ?_
  with_reducible repeat (first | refine xq_then ?_ | refine xq_blockN ?_ | refine xq_scopeN ?_)
  cases h : decide (x = id)
  all_goals
    with_reducible repeat refine xc_seq ?_
    with_reducible refine xc_region ?_
    refine xo_mv rfl rfl rfl ?_
    refine xo_loadR0 T_ rfl rfl rfl (by first | assumption | exact RO.fld (by assumption) rfl) rfl ?_
    refine xo_eql rfl rfl rfl rfl ?_
    refine xo_mv rfl rfl rfl ?_
    refine xo_as (i := 8) rfl (congrArg Value.bool h) ?_
    first
      | refine xo_not rfl rfl ?_
      | (refine xo_loadR0 T_ rfl rfl rfl (by first | assumption | exact RO.fld (by assumption) rfl) rfl ?_)
    first
      | refine xo_not rfl rfl ?_
      | (refine xo_mv rfl rfl rfl ?_)
    first
      | refine xo_not rfl rfl ?_
      | (refine xo_sget T_ rfl rfl rfl rfl rfl rfl (by repeat (first | exact List.Mem.head _ | apply List.Mem.tail | apply List.mem_append_right)) rfl ?_)
    first | refine xo_pickT rfl rfl rfl rfl ?_ | refine xo_pickF rfl rfl rfl rfl ?_
    refine xo_asg rfl rfl rfl ?_
    with_reducible refine xo_nil ?_
    with_reducible repeat (first | refine xq_then ?_ | refine xq_blockN ?_ | refine xq_scopeN ?_)
    with_reducible repeat refine xc_seq ?_
    with_reducible refine xc_ret ?_
    with_reducible repeat (first | refine xq_thenR ?_ | refine xq_blockR ?_ | refine xq_scopeR ?_)
    exact xq_ret1 rfl rfl fun w' hw => ⟨rfl, hw.kx.below⟩
theorem pieces1_enters : ∀ args w, (callFunc 45 args).run Tryd.prog w = .ok (.enter 45 args) w := enters_of Tryd.func45 (by kernel_rfl) rfl
theorem containsFn_enters : ∀ args w, (callFunc 44 args).run Tryd.prog w = .ok (.enter 44 args) w := enters_of Tryd.func44 (by kernel_rfl) rfl
theorem take_any {α : Type} (p : α → Bool) (xs : List α) (z : α) (k : Nat) (hk : k < xs.length) : (xs.take (k + 1)).any p = ((xs.take k).any p || p (xs.getD k z)) := by
  rw [List.take_succ_eq_append_getElem hk, List.any_append]
  simp [List.getD_eq_getElem?_getD, List.getElem?_eq_getElem hk]
set_option maxHeartbeats 16000000 in
theorem pieces_calls (A B : Option Addr) (c c' : Nat) (r : List RecT) (m : List MovT) (id : Int) (w : World) (hr : Kd.C recK w A r.length r) (hm : Kd.C movK w B m.length m) (hk : Bytes r) (hkm : BytesM m) (hglob : GlobOK w) :
    Calls Tryd.prog 13 #[.slice A r.length c, .slice B m.length c', .int .i64 id] w fun e w' => e = .returned (.tuple #[.agg (stV (piecesR r m id)).toArray, .int .i64 (piecesC r m id)]) ∧ Below w.heap.size w w' := by
  have hn := hr.2.1
  refine x_calls (X := XNone) Tryd.func13 rfl rfl rfl ?_
  with_reducible repeat refine xc_seq ?_
  with_reducible refine xc_region ?_
  refine xo_box rfl rfl rfl rfl (fun b5 => ?_)
  refine xo_alloc T_ rfl rfl rfl rfl (fun b6 => ?_)
  refine xo_asg rfl rfl rfl ?_
  with_reducible refine xo_nil ?_
  with_reducible repeat (first | refine xq_then ?_ | refine xq_blockN ?_ | refine xq_scopeN ?_)
  with_reducible repeat refine xc_seq ?_
  with_reducible refine xc_region ?_
  refine xo_mv rfl rfl rfl ?_
  refine xo_callB (fs := []) (cs := []) rfl rfl rfl recorded_enters rfl (fun w1 hw1 => recorded_calls A c r w1 (Kd.C_below hr hw1.kx.below) hk) ?_
  refine xo_notOp rfl rfl rfl ?_
  with_reducible refine xo_nil ?_
  with_reducible repeat (first | refine xq_then ?_ | refine xq_blockN ?_ | refine xq_scopeN ?_)
  with_reducible repeat refine xc_seq ?_
  refine xc_cond rfl (fun hrec => ?_) (fun hrec => ?_)
  · simp only [Bool.not_eq_true'] at hrec
    have e1 : piecesC r m id = 80 := by rw [piecesC, hrec]; rfl
    have e2 : piecesR r m id = st0 := by rw [piecesR, e1]; rfl
    with_reducible repeat refine xc_seq ?_
    with_reducible refine xc_region ?_
    refine xo_build TB_ rfl rfl rfl rfl rfl ?_
    refine xo_store T_ rfl rfl rfl rfl (by repeat (first | exact List.Mem.head _ | apply List.Mem.tail | apply List.mem_append_right)) rfl rfl rfl rfl (by repeat (first | exact Upd.head | apply Upd.tail | apply Upd.app)) rfl ?_
    refine xo_asg rfl rfl rfl ?_
    with_reducible refine xo_nil ?_
    with_reducible repeat (first | refine xq_then ?_ | refine xq_blockN ?_ | refine xq_scopeN ?_)
    with_reducible repeat refine xc_seq ?_
    with_reducible refine xc_ret ?_
    with_reducible repeat (first | refine xq_thenR ?_ | refine xq_blockR ?_ | refine xq_scopeR ?_)
    exact xq_retC1 T_ rfl rfl rfl rfl (by repeat (first | exact List.Mem.head _ | apply List.Mem.tail | apply List.mem_append_right)) rfl fun w' hw => ⟨by rw [e1, e2]; rfl, hw.kx.below⟩
  simp only [Bool.not_eq_false'] at hrec
  have hs := sorted_of hrec
  have hlen := recorded_len hrec
  with_reducible refine xc_skip ?_
  with_reducible repeat (first | refine xq_then ?_ | refine xq_blockN ?_ | refine xq_scopeN ?_)
  cases hcf : countF r m
  · have e1 : piecesC r m id = 82 := by rw [piecesC, hrec, hcf]; rfl
    have e2 : piecesR r m id = st0 := by rw [piecesR, e1]; rfl
    with_reducible repeat refine xc_seq ?_
    with_reducible refine xc_region ?_
    refine xo_mv rfl rfl rfl ?_
    refine xo_mv rfl rfl rfl ?_
    refine xo_call (fs := []) (cs := []) rfl rfl rfl count_enters rfl (fun w1 hw1 => (count_calls A B c c' r m w1 (Kd.C_below hr hw1.kx.below) (Kd.C_below hm hw1.kx.below) hkm hs (by omega) (hglob.below hw1.kx.below)).mono ?_)
    rintro e w2 (⟨_, rfl, hb⟩ | ⟨h, _⟩)
    rotate_left
    · rw [hcf] at h; cases h
    refine ⟨_, _, rfl, hw1.below hb, ?_⟩
    clear hb hw1
    refine xo_mv rfl rfl rfl ?_
    refine xo_ext rfl rfl rfl rfl ?_
    refine xo_ext rfl rfl rfl rfl ?_
    refine xo_asg rfl rfl rfl ?_
    refine xo_asg rfl rfl rfl ?_
    with_reducible refine xo_nil ?_
    with_reducible repeat (first | refine xq_then ?_ | refine xq_blockN ?_ | refine xq_scopeN ?_)
    with_reducible repeat refine xc_seq ?_
    with_reducible refine xc_block ?_
    with_reducible repeat refine xc_seq ?_
    with_reducible refine xc_region ?_
    refine xo_mv rfl rfl rfl ?_
    refine xo_notOp rfl rfl rfl ?_
    refine xo_asg rfl rfl rfl ?_
    with_reducible refine xo_nil ?_
    with_reducible repeat (first | refine xq_then ?_ | refine xq_blockN ?_ | refine xq_scopeN ?_)
    with_reducible repeat refine xc_seq ?_
    refine xc_condT rfl ?_
    with_reducible repeat refine xc_seq ?_
    with_reducible refine xc_region ?_
    refine xo_build TB_ rfl rfl rfl rfl rfl ?_
    refine xo_store T_ rfl rfl rfl rfl (by repeat (first | exact List.Mem.head _ | apply List.Mem.tail | apply List.mem_append_right)) rfl rfl rfl rfl (by repeat (first | exact Upd.head | apply Upd.tail | apply Upd.app)) rfl ?_
    refine xo_asg rfl rfl rfl ?_
    with_reducible refine xo_nil ?_
    with_reducible repeat (first | refine xq_then ?_ | refine xq_blockN ?_ | refine xq_scopeN ?_)
    with_reducible repeat refine xc_seq ?_
    with_reducible refine xc_ret ?_
    with_reducible repeat (first | refine xq_thenR ?_ | refine xq_blockR ?_ | refine xq_scopeR ?_)
    exact xq_retC1 T_ rfl rfl rfl rfl (by repeat (first | exact List.Mem.head _ | apply List.Mem.tail | apply List.mem_append_right)) rfl fun w' hw => ⟨by rw [e1, e2]; rfl, hw.kx.below⟩
  with_reducible repeat refine xc_seq ?_
  with_reducible refine xc_region ?_
  refine xo_mv rfl rfl rfl ?_
  refine xo_mv rfl rfl rfl ?_
  refine xo_call (fs := []) (cs := []) rfl rfl rfl count_enters rfl (fun w1 hw1 => (count_calls A B c c' r m w1 (Kd.C_below hr hw1.kx.below) (Kd.C_below hm hw1.kx.below) hkm hs (by omega) (hglob.below hw1.kx.below)).mono ?_)
  rintro e w2 (⟨h, _⟩ | ⟨_, M, L, rfl, hL, hz⟩)
  · rw [hcf] at h; cases h
  refine ⟨_, _, rfl, hw1.join hz (fun e he => (List.mem_cons.1 he).elim (fun q => by rw [q]) (stH_true e)), ?_⟩
  clear hz hw1
  refine xo_mv rfl rfl rfl ?_
  refine xo_ext rfl rfl rfl rfl ?_
  refine xo_ext rfl rfl rfl rfl ?_
  refine xo_asg rfl rfl rfl ?_
  refine xo_asg rfl rfl rfl ?_
  with_reducible refine xo_nil ?_
  with_reducible repeat (first | refine xq_then ?_ | refine xq_blockN ?_ | refine xq_scopeN ?_)
  with_reducible repeat refine xc_seq ?_
  with_reducible refine xc_block ?_
  with_reducible repeat refine xc_seq ?_
  with_reducible refine xc_region ?_
  refine xo_mv rfl rfl rfl ?_
  refine xo_notOp rfl rfl rfl ?_
  refine xo_asg rfl rfl rfl ?_
  with_reducible refine xo_nil ?_
  with_reducible repeat (first | refine xq_then ?_ | refine xq_blockN ?_ | refine xq_scopeN ?_)
  with_reducible repeat refine xc_seq ?_
  refine xc_condF rfl ?_
  with_reducible repeat refine xc_seq ?_
  with_reducible refine xc_region ?_
  refine xo_mv rfl rfl rfl ?_
  refine xo_load0 T_ rfl rfl rfl (by repeat (first | exact List.Mem.head _ | exact List.mem_append_left _ (List.Mem.head _) | apply List.mem_append_right | apply List.Mem.tail)) rfl rfl ?_
  refine xo_callB (fs := []) (cs := []) rfl rfl rfl known_enters rfl (fun w1 hw1 => known_calls A c r _ w1 (Kd.C_below hr hw1.kx.below)) ?_
  refine xo_notOp rfl rfl rfl ?_
  refine xo_asg rfl rfl rfl ?_
  with_reducible refine xo_nil ?_
  with_reducible repeat (first | refine xq_then ?_ | refine xq_blockN ?_ | refine xq_scopeN ?_)
  with_reducible repeat refine xc_seq ?_
  refine xc_cond rfl (fun hkn => ?_) (fun hkn => ?_)
  · simp only [Bool.not_eq_true'] at hkn
    have e1 : piecesC r m id = 6 := by rw [piecesC, hrec, hcf, hkn]; rfl
    have e2 : piecesR r m id = st0 := by rw [piecesR, e1]; rfl
    with_reducible repeat refine xc_seq ?_
    with_reducible refine xc_region ?_
    refine xo_build TB_ rfl rfl rfl rfl rfl ?_
    refine xo_store T_ rfl rfl rfl rfl (by repeat (first | exact List.Mem.head _ | exact List.mem_append_left _ (List.Mem.head _) | apply List.mem_append_right | apply List.Mem.tail)) rfl rfl rfl rfl (Upd.tail (Upd.app (by repeat (first | exact Upd.head | apply Upd.tail | apply Upd.app)) _)) rfl ?_
    refine xo_asg rfl rfl rfl ?_
    with_reducible refine xo_nil ?_
    with_reducible repeat (first | refine xq_then ?_ | refine xq_blockN ?_ | refine xq_scopeN ?_)
    with_reducible repeat refine xc_seq ?_
    with_reducible refine xc_ret ?_
    with_reducible repeat (first | refine xq_thenR ?_ | refine xq_blockR ?_ | refine xq_scopeR ?_)
    exact xq_retC1 T_ rfl rfl rfl rfl (by repeat (first | exact List.Mem.head _ | exact List.mem_append_left _ (List.Mem.head _) | apply List.mem_append_right | apply List.Mem.tail)) rfl fun w' hw => ⟨by rw [e1, e2]; rfl, hw.kx.below⟩
  simp only [Bool.not_eq_false'] at hkn
  have e1 : piecesC r m id = 0 := by rw [piecesC, hrec, hcf, hkn]; rfl
  have e2 : piecesR r m id = piecesL m id [] st0 r := by rw [piecesR, if_pos e1]
  with_reducible refine xc_skip ?_
  with_reducible repeat (first | refine xq_then ?_ | refine xq_blockN ?_ | refine xq_scopeN ?_)
  with_reducible repeat refine xc_seq ?_
  with_reducible refine xc_region ?_
  refine xo_mkm rfl rfl (fun b39 => ?_)
  refine xo_alloc T_ rfl rfl rfl rfl (fun b10 => ?_)
  refine xo_store T_ rfl rfl rfl rfl (by repeat (first | exact List.Mem.head _ | apply List.Mem.tail | apply List.mem_append_right)) rfl rfl rfl rfl (by repeat (first | exact Upd.head | apply Upd.tail | apply Upd.app)) rfl ?_
  with_reducible refine xo_nil ?_
  with_reducible repeat (first | refine xq_then ?_ | refine xq_blockN ?_ | refine xq_scopeN ?_)
  with_reducible repeat refine xc_seq ?_
  with_reducible refine xc_region ?_
  refine xo_alloc T_ rfl rfl rfl rfl (fun b11 => ?_)
  with_reducible refine xo_nil ?_
  with_reducible repeat (first | refine xq_then ?_ | refine xq_blockN ?_ | refine xq_scopeN ?_)
  with_reducible repeat refine xc_seq ?_
  with_reducible refine xc_region ?_
  refine xo_mv rfl rfl rfl ?_
  refine xo_len T_ rfl rfl rfl rfl ?_
  refine xo_mv rfl rfl rfl ?_
  with_reducible refine xo_nil ?_
  with_reducible repeat (first | refine xq_then ?_ | refine xq_blockN ?_ | refine xq_scopeN ?_)
  with_reducible repeat refine xc_seq ?_
  with_reducible refine xc_block ?_
  refine xc_loop (γ := Nat × List Int × StT) (fun q => q.1 ≤ r.length ∧ StB q.2.2 (4000000 * (q.1 : Int)) ∧ piecesL m id [] st0 r = piecesL m id q.2.1 q.2.2 (r.drop q.1)) (fun q => [(0, .slice A r.length c), (5, .pointer (some ⟨b5, 0, none⟩)), (6, .pointer (some ⟨b6, 0, none⟩)), (8, .map (some M)), (10, .pointer (some ⟨b10, 0, none⟩)), (11, .pointer (some ⟨b11, 0, none⟩)), (40, .slice A r.length c), (41, .int .i64 (r.length : Int)), (42, .int .i64 (q.1 : Int))])
    (fun q => (b11, true, cel (stV q.2.2) 27) :: (b10, true, cel [.map (some b39)] 62) :: (b39, true, hmap (setV q.2.1)) :: (M, true, hmap (stM L)) :: (stH (storeF m) L ++ [(b6, true, cel (stV st0) 27), (b5, true, cel [.int .i64 id] 3)])) (fun q => r.length - q.1) (0, [], st0) ⟨Nat.zero_le _, by unfold StB st0; simp, rfl⟩ ⟨rfl, rfl, rfl, rfl, rfl, rfl, rfl, rfl, rfl, trivial⟩ (by repeat (first | exact List.Sublist.refl _ | apply List.Sublist.cons_cons | apply List.Sublist.cons | exact List.nil_sublist _)) ?_
  rintro ⟨k, come, sum⟩ ⟨hk1, hsB, hpl⟩
  simp only at hk1 hsB hpl ⊢
  with_reducible repeat refine xc_seq ?_
  with_reducible refine xc_region ?_
  refine xo_lss rfl rfl rfl rfl ?_
  with_reducible refine xo_nil ?_
  with_reducible repeat (first | refine xq_then ?_ | refine xq_blockN ?_ | refine xq_scopeN ?_)
  with_reducible repeat refine xc_seq ?_
  refine xc_cond rfl (fun h => ?_) (fun h => ?_)
  · have hlt : k < r.length := by have := of_decide_eq_true h; omega
    obtain ⟨ad, A2, c2, rfl, r1, hc2, hw2⟩ := rec_at hr k hlt
    have hbm := batch_mem hs hlt
    have hn3 := hw2.2.1
    rw [drop_at r zRec k hlt, piecesL] at hpl
    generalize r.getD k zRec = x at *
    with_reducible refine xc_skip ?_
    with_reducible repeat (first | refine xq_then ?_ | refine xq_blockN ?_ | refine xq_scopeN ?_)
    with_reducible repeat refine xc_seq ?_
    with_reducible refine xc_block ?_
    with_reducible repeat refine xc_seq ?_
    with_reducible refine xc_region ?_
    refine xo_ia T_ rfl rfl rfl rfl rfl ⟨by omega, by omega⟩ rfl ?_
    refine xo_loadRN T_ rfl rfl rfl (by assumption) rfl rfl ?_
    refine xo_alloc T_ rfl rfl rfl rfl (fun b13 => ?_)
    refine xo_store T_ rfl rfl rfl rfl (by repeat (first | exact List.Mem.head _ | apply List.Mem.tail | apply List.mem_append_right)) rfl rfl rfl rfl (by repeat (first | exact Upd.head | apply Upd.tail | apply Upd.app)) rfl ?_
    with_reducible refine xo_nil ?_
    with_reducible repeat (first | refine xq_then ?_ | refine xq_blockN ?_ | refine xq_scopeN ?_)
    with_reducible repeat refine xc_seq ?_
    with_reducible refine xc_region ?_
    refine xo_fa T_ rfl rfl rfl rfl rfl ?_
    refine xo_load0 T_ rfl rfl rfl (by repeat (first | exact List.Mem.head _ | apply List.Mem.tail | apply List.mem_append_right)) rfl rfl ?_
    refine xo_load0 T_ rfl rfl rfl (by repeat (first | exact List.Mem.head _ | exact List.mem_append_left _ (List.Mem.head _) | apply List.mem_append_right | apply List.Mem.tail)) rfl rfl ?_
    refine xo_eql rfl rfl rfl rfl ?_
    refine xo_asg rfl rfl rfl ?_
    with_reducible refine xo_nil ?_
    with_reducible repeat (first | refine xq_then ?_ | refine xq_blockN ?_ | refine xq_scopeN ?_)
    with_reducible repeat refine xc_seq ?_
    with_reducible refine xc_region ?_
    refine xo_fa T_ rfl rfl rfl rfl rfl ?_
    refine xo_load0 T_ rfl rfl rfl (by repeat (first | exact List.Mem.head _ | apply List.Mem.tail | apply List.mem_append_right)) rfl rfl ?_
    refine xo_len T_ rfl rfl rfl rfl ?_
    refine xo_mv rfl rfl rfl ?_
    with_reducible refine xo_nil ?_
    with_reducible repeat (first | refine xq_then ?_ | refine xq_blockN ?_ | refine xq_scopeN ?_)
    with_reducible repeat refine xc_seq ?_
    with_reducible refine xc_block ?_
    refine xc_loop (γ := Nat × Bool) (fun q => q.1 ≤ x.f2.length ∧ q.2 = (decide (x.f0 = id) || (x.f2.take q.1).any (wayP id come))) (fun q => [(0, .slice (some ad) r.length c), (5, .pointer (some ⟨b5, 0, none⟩)), (6, .pointer (some ⟨b6, 0, none⟩)), (8, .map (some M)), (10, .pointer (some ⟨b10, 0, none⟩)), (11, .pointer (some ⟨b11, 0, none⟩)), (40, .slice (some ad) r.length c), (41, .int .i64 (r.length : Int)), (42, .int .i64 (k : Int)), (13, .pointer (some ⟨b13, 0, none⟩)), (14, .bool q.2), (51, .slice A2 x.f2.length c2), (52, .int .i64 (x.f2.length : Int)), (53, .int .i64 (q.1 : Int))])
      (fun _ => (b13, true, cel (recV x A2 c2) 50) :: (b11, true, cel (stV sum) 27) :: (b10, true, cel [.map (some b39)] 62) :: (b39, true, hmap (setV come)) :: (M, true, hmap (stM L)) :: (stH (storeF m) L ++ [(b6, true, cel (stV st0) 27), (b5, true, cel [.int .i64 id] 3)])) (fun q => x.f2.length - q.1) (0, decide (x.f0 = id)) ⟨Nat.zero_le _, by simp⟩ ⟨rfl, rfl, rfl, rfl, rfl, rfl, rfl, rfl, rfl, rfl, rfl, rfl, rfl, rfl, trivial⟩ (List.Sublist.refl _) ?_
    rintro ⟨j, from_⟩ ⟨hj1, hfr⟩
    simp only at hj1 hfr ⊢
    with_reducible repeat refine xc_seq ?_
    with_reducible refine xc_region ?_
    refine xo_lss rfl rfl rfl rfl ?_
    with_reducible refine xo_nil ?_
    with_reducible repeat (first | refine xq_then ?_ | refine xq_blockN ?_ | refine xq_scopeN ?_)
    with_reducible repeat refine xc_seq ?_
    refine xc_cond rfl (fun h => ?_) (fun h => ?_)
    · have hjl : j < x.f2.length := by have := of_decide_eq_true h; omega
      obtain ⟨ad3, A3, c3, rfl, r3, hc3, hw3⟩ := way_at hw2 j hjl
      have hta := take_any (wayP id come) x.f2 [] j hjl
      generalize x.f2.getD j [] = way at *
      with_reducible refine xc_skip ?_
      with_reducible repeat (first | refine xq_then ?_ | refine xq_blockN ?_ | refine xq_scopeN ?_)
      with_reducible repeat refine xc_seq ?_
      with_reducible refine xc_block ?_
      with_reducible repeat refine xc_seq ?_
      with_reducible refine xc_region ?_
      refine xo_ia T_ rfl rfl rfl rfl rfl ⟨by omega, by omega⟩ rfl ?_
      refine xo_loadR0 T_ rfl rfl rfl (by first | assumption | exact RO.fld (by assumption) rfl) rfl ?_
      refine xo_asg rfl rfl rfl ?_
      with_reducible refine xo_nil ?_
      with_reducible repeat (first | refine xq_then ?_ | refine xq_blockN ?_ | refine xq_scopeN ?_)
      cases from_
      all_goals
        with_reducible repeat refine xc_seq ?_
        with_reducible refine xc_region ?_
        refine xo_mv rfl rfl rfl ?_
        refine xo_mv rfl rfl rfl ?_
        first
          | refine xo_not rfl rfl ?_
          | (refine xo_mv rfl rfl rfl ?_)
        first
          | refine xo_not rfl rfl ?_
          | (refine xo_mkf rfl rfl rfl rfl ?_)
        first
          | refine xo_not rfl rfl ?_
          | (refine xo_callB (fs := []) (cs := []) rfl rfl rfl containsFn_enters rfl (fun w1 hw1 => containsFunc_calls (fun n => decide (n = id) || decide (n ∈ come)) 45 [.pointer (some ⟨b5, 0, none⟩), .pointer (some ⟨b10, 0, none⟩)] pieces1_enters A3 c3 way w1 (Kd.C_below hw3 hw1.kx.below) (fun y W hW => pieces1_calls y id come b5 b10 b39 W ((hw1.below hW).cell (by repeat (first | exact List.Mem.head _ | exact List.mem_append_left _ (List.Mem.head _) | apply List.mem_append_right | apply List.Mem.tail)) 0 rfl) ((hw1.below hW).cell (by repeat (first | exact List.Mem.head _ | apply List.Mem.tail | apply List.mem_append_right)) 0 rfl) ((hw1.below hW).imap (wr := true) (by repeat (first | exact List.Mem.head _ | apply List.Mem.tail | apply List.mem_append_right))))) ?_)
        first | refine xo_pickT rfl rfl rfl rfl ?_ | refine xo_pickF rfl rfl rfl rfl ?_
        refine xo_asg rfl rfl rfl ?_
        with_reducible refine xo_nil ?_
        with_reducible repeat (first | refine xq_then ?_ | refine xq_blockN ?_ | refine xq_scopeN ?_)
        with_reducible repeat refine xc_seq ?_
        with_reducible refine xc_region ?_
        refine xo_add rfl rfl rfl (by omega) rfl ?_
        refine xo_mv rfl rfl rfl ?_
        with_reducible refine xo_nil ?_
        with_reducible repeat (first | refine xq_then ?_ | refine xq_blockN ?_ | refine xq_scopeN ?_)
      · exact xq_again _ _ _ _ _ (j + 1, wayP id come way) ⟨by omega, by simp only; rw [hta, ← Bool.or_assoc, ← hfr]; rfl⟩ (by first | omega | (simp only; omega)) ⟨rfl, rfl, rfl, rfl, rfl, rfl, rfl, rfl, rfl, rfl, rfl, rfl, rfl, rfl, trivial⟩ (List.Sublist.refl _)
      · exact xq_again _ _ _ _ _ (j + 1, true) ⟨by omega, by simp only; rw [hta, ← Bool.or_assoc, ← hfr]; rfl⟩ (by first | omega | (simp only; omega)) ⟨rfl, rfl, rfl, rfl, rfl, rfl, rfl, rfl, rfl, rfl, rfl, rfl, rfl, rfl, trivial⟩ (List.Sublist.refl _)
    have hgej : ¬ j < x.f2.length := by have := of_decide_eq_false h; omega
    rw [List.take_of_length_le (by omega)] at hfr
    have hfr : from_ = fromF id come x := hfr
    rw [← hfr, ← hbm, ← hL] at hpl
    with_reducible refine xc_exit ?_
    with_reducible repeat (first | refine xq_blockX ?_ | refine xq_thenE ?_ | refine xq_blockE rfl ?_ | refine xq_scopeE ?_)
    with_reducible repeat (first | refine xq_then ?_ | refine xq_blockN ?_ | refine xq_scopeN ?_)
    rcases imGet_stM (L := L) (id := x.f0) with ⟨b, hb1, hb2⟩ | ⟨hb1, hb2⟩
    rotate_left
    · with_reducible repeat refine xc_seq ?_
      with_reducible refine xc_region ?_
      refine xo_mv rfl rfl rfl ?_
      refine xo_fa T_ rfl rfl rfl rfl rfl ?_
      refine xo_load0 T_ rfl rfl rfl (by repeat (first | exact List.Mem.head _ | apply List.Mem.tail | apply List.mem_append_right)) rfl rfl ?_
      refine xo_look2 T_ rfl rfl rfl rfl rfl rfl (by repeat (first | exact List.Mem.head _ | apply List.Mem.tail | apply List.mem_append_right)) (by rw [hb2]) (by rw [hb2]) rfl ?_
      refine xo_mv rfl rfl rfl ?_
      refine xo_ext rfl rfl rfl rfl ?_
      refine xo_ext rfl rfl rfl rfl ?_
      refine xo_asg rfl rfl rfl ?_
      refine xo_asg rfl rfl rfl ?_
      with_reducible refine xo_nil ?_
      with_reducible repeat (first | refine xq_then ?_ | refine xq_blockN ?_ | refine xq_scopeN ?_)
      rw [decide_eq_false hb1, Bool.and_false, if_neg (by simp)] at hpl
      cases from_
      all_goals
        with_reducible repeat refine xc_seq ?_
        with_reducible refine xc_region ?_
        refine xo_mv rfl rfl rfl ?_
        refine xo_notOp rfl rfl rfl ?_
        refine xo_mv rfl rfl rfl ?_
        first
          | refine xo_not rfl rfl ?_
          | (refine xo_mv rfl rfl rfl ?_)
        first
          | refine xo_not rfl rfl ?_
          | (refine xo_notOp rfl rfl rfl ?_)
        first | refine xo_pickT rfl rfl rfl rfl ?_ | refine xo_pickF rfl rfl rfl rfl ?_
        with_reducible refine xo_nil ?_
        with_reducible repeat (first | refine xq_then ?_ | refine xq_blockN ?_ | refine xq_scopeN ?_)
        with_reducible repeat refine xc_seq ?_
        refine xc_condT rfl ?_
        with_reducible refine xc_exit ?_
        with_reducible repeat (first | refine xq_blockX ?_ | refine xq_thenE ?_ | refine xq_blockE rfl ?_ | refine xq_scopeE ?_)
        with_reducible repeat (first | refine xq_then ?_ | refine xq_blockN ?_ | refine xq_scopeN ?_)
        with_reducible repeat refine xc_seq ?_
        with_reducible refine xc_region ?_
        refine xo_add rfl rfl rfl (by omega) rfl ?_
        refine xo_mv rfl rfl rfl ?_
        with_reducible refine xo_nil ?_
        with_reducible repeat (first | refine xq_then ?_ | refine xq_blockN ?_ | refine xq_scopeN ?_)
        exact xq_again _ _ _ _ _ (k + 1, come, sum) ⟨hlt, hsB.mono (by simp only; omega), hpl⟩ (by first | omega | (simp only; omega)) ⟨rfl, rfl, rfl, rfl, rfl, rfl, rfl, rfl, rfl, trivial⟩ (by repeat (first | exact List.Sublist.refl _ | apply List.Sublist.cons_cons | apply List.Sublist.cons | exact List.nil_sublist _))
    · with_reducible repeat refine xc_seq ?_
      with_reducible refine xc_region ?_
      refine xo_mv rfl rfl rfl ?_
      refine xo_fa T_ rfl rfl rfl rfl rfl ?_
      refine xo_load0 T_ rfl rfl rfl (by repeat (first | exact List.Mem.head _ | apply List.Mem.tail | apply List.mem_append_right)) rfl rfl ?_
      refine xo_look2 T_ rfl rfl rfl rfl rfl rfl (by repeat (first | exact List.Mem.head _ | apply List.Mem.tail | apply List.mem_append_right)) (by rw [hb2]) (by rw [hb2]) rfl ?_
      refine xo_mv rfl rfl rfl ?_
      refine xo_ext rfl rfl rfl rfl ?_
      refine xo_ext rfl rfl rfl rfl ?_
      refine xo_asg rfl rfl rfl ?_
      refine xo_asg rfl rfl rfl ?_
      with_reducible refine xo_nil ?_
      with_reducible repeat (first | refine xq_then ?_ | refine xq_blockN ?_ | refine xq_scopeN ?_)
      rw [decide_eq_true (List.mem_map.2 ⟨_, hb1, rfl⟩), Bool.and_true] at hpl
      cases from_
      · rw [if_neg (by simp)] at hpl
        with_reducible repeat refine xc_seq ?_
        with_reducible refine xc_region ?_
        refine xo_mv rfl rfl rfl ?_
        refine xo_notOp rfl rfl rfl ?_
        refine xo_mv rfl rfl rfl ?_
        first
          | refine xo_not rfl rfl ?_
          | (refine xo_mv rfl rfl rfl ?_)
        first
          | refine xo_not rfl rfl ?_
          | (refine xo_notOp rfl rfl rfl ?_)
        first | refine xo_pickT rfl rfl rfl rfl ?_ | refine xo_pickF rfl rfl rfl rfl ?_
        with_reducible refine xo_nil ?_
        with_reducible repeat (first | refine xq_then ?_ | refine xq_blockN ?_ | refine xq_scopeN ?_)
        with_reducible repeat refine xc_seq ?_
        refine xc_condT rfl ?_
        with_reducible refine xc_exit ?_
        with_reducible repeat (first | refine xq_blockX ?_ | refine xq_thenE ?_ | refine xq_blockE rfl ?_ | refine xq_scopeE ?_)
        with_reducible repeat (first | refine xq_then ?_ | refine xq_blockN ?_ | refine xq_scopeN ?_)
        with_reducible repeat refine xc_seq ?_
        with_reducible refine xc_region ?_
        refine xo_add rfl rfl rfl (by omega) rfl ?_
        refine xo_mv rfl rfl rfl ?_
        with_reducible refine xo_nil ?_
        with_reducible repeat (first | refine xq_then ?_ | refine xq_blockN ?_ | refine xq_scopeN ?_)
        exact xq_again _ _ _ _ _ (k + 1, come, sum) ⟨hlt, hsB.mono (by simp only; omega), hpl⟩ (by first | omega | (simp only; omega)) ⟨rfl, rfl, rfl, rfl, rfl, rfl, rfl, rfl, rfl, trivial⟩ (by repeat (first | exact List.Sublist.refl _ | apply List.Sublist.cons_cons | apply List.Sublist.cons | exact List.nil_sublist _))
      rw [if_pos rfl] at hpl
      have hB2 := count_B hcf x.f0
      have hsB' := (hsB.add hB2).mono (show 4000000 * (k : Int) + 4000000 ≤ 4000000 * ((k + 1 : Nat) : Int) by omega)
      with_reducible repeat refine xc_seq ?_
      with_reducible refine xc_region ?_
      refine xo_mv rfl rfl rfl ?_
      refine xo_notOp rfl rfl rfl ?_
      refine xo_mv rfl rfl rfl ?_
      first
        | refine xo_not rfl rfl ?_
        | (refine xo_mv rfl rfl rfl ?_)
      first
        | refine xo_not rfl rfl ?_
        | (refine xo_notOp rfl rfl rfl ?_)
      first | refine xo_pickT rfl rfl rfl rfl ?_ | refine xo_pickF rfl rfl rfl rfl ?_
      with_reducible refine xo_nil ?_
      with_reducible repeat (first | refine xq_then ?_ | refine xq_blockN ?_ | refine xq_scopeN ?_)
      with_reducible repeat refine xc_seq ?_
      refine xc_condF rfl ?_
      with_reducible refine xc_skip ?_
      with_reducible repeat (first | refine xq_then ?_ | refine xq_blockN ?_ | refine xq_scopeN ?_)
      with_reducible repeat refine xc_seq ?_
      with_reducible refine xc_region ?_
      refine xo_load0 T_ rfl rfl rfl (by repeat (first | exact List.Mem.head _ | apply List.Mem.tail | apply List.mem_append_right)) rfl rfl ?_
      refine xo_fa T_ rfl rfl rfl rfl rfl ?_
      refine xo_load0 T_ rfl rfl rfl (by repeat (first | exact List.Mem.head _ | apply List.Mem.tail | apply List.mem_append_right)) rfl rfl ?_
      refine xo_sins T_ rfl rfl rfl rfl rfl rfl (by repeat (first | exact List.Mem.head _ | apply List.Mem.tail | apply List.mem_append_right)) (by repeat (first | exact Upd.head | apply Upd.tail | apply Upd.app)) rfl ?_
      with_reducible refine xo_nil ?_
      with_reducible repeat (first | refine xq_then ?_ | refine xq_blockN ?_ | refine xq_scopeN ?_)
      with_reducible repeat refine xc_seq ?_
      with_reducible refine xc_region ?_
      refine xo_mv rfl rfl rfl ?_
      refine xo_nilck rfl rfl rfl ?_
      refine xo_loadN T_ rfl rfl rfl (List.Mem.tail _ (List.Mem.tail _ (List.Mem.tail _ (List.Mem.tail _ (List.Mem.tail _ (List.mem_append_left _ (stH_mem hb1))))))) rfl rfl ?_
      refine xo_build TB_ rfl rfl rfl rfl rfl ?_
      refine xo_neqSt (a := storeF m x.f0) (b := st0) rfl rfl rfl rfl ?_
      with_reducible refine xo_nil ?_
      with_reducible repeat (first | refine xq_then ?_ | refine xq_blockN ?_ | refine xq_scopeN ?_)
      with_reducible repeat refine xc_seq ?_
      refine xc_cond rfl (fun hz => ?_) (fun hz => ?_)
      · unfold StB at hsB hB2
        with_reducible repeat refine xc_seq ?_
        apply xc_drawE (fun g => []) (fun (η0 : Hp) g => match g with | [] => (η0) | a0 :: _ => ((b13, true, cel (recV x A2 c2) 50) :: (b11, true, cel (stV (addS sum (storeF m x.f0))) 27) :: (b10, true, cel [.map (some b39)] 62) :: (b39, true, hmap (setV (insN x.f0 come))) :: (M, true, hmap (stM L)) :: (stH (storeF m) L ++ [(b6, true, cel (stV st0) 27), (b5, true, cel [.int .i64 id] 3)]))) (fun _ => True) [0, 0, 0, 0, 0, 0, 0, 0, 0, 0, 0, 0, 0, 0, 0, 0, 0, 0, 0, 0, 0, 0, 0, 0, 0, 0, 0, 0, 0, 0, 0, 0, 0, 0, 0, 0, 0, 0, 0, 0, 0, 0, 0, 1] [43] [[42, 0, 1, 2, 3, 4, 5, 6, 7, 8, 9, 10, 11, 12, 13, 14, 15, 16, 17, 18, 19, 20, 21, 22, 23, 24, 25, 26, 27, 28, 29, 30, 31, 32, 33, 34, 35, 36, 37, 38, 39, 40, 41, 42]] (by trivial)
        apply SameLen.cons
        apply SameLen.cons
        apply SameLen.cons
        apply SameLen.cons
        apply SameLen.cons
        apply SameLen.cons
        apply SameLen.cons
        apply SameLen.cons
        apply SameLen.cons
        apply SameLen.cons
        apply SameLen.cons
        apply SameLen.cons
        apply SameLen.cons
        apply SameLen.cons
        apply SameLen.cons
        apply SameLen.cons
        apply SameLen.cons
        apply SameLen.cons
        apply SameLen.cons
        apply SameLen.cons
        apply SameLen.cons
        apply SameLen.cons
        apply SameLen.cons
        apply SameLen.cons
        apply SameLen.cons
        apply SameLen.cons
        apply SameLen.cons
        apply SameLen.cons
        apply SameLen.cons
        apply SameLen.cons
        apply SameLen.cons
        apply SameLen.cons
        apply SameLen.cons
        apply SameLen.cons
        apply SameLen.cons
        apply SameLen.cons
        apply SameLen.cons
        apply SameLen.cons
        apply SameLen.cons
        apply SameLen.cons
        apply SameLen.cons
        apply SameLen.cons
        apply SameLen.cons
        apply SameLen.cons
        exact SameLen.nil
        rotate_left 44
        case hH0 => rfl
        case hmix => exact T_.mixed
        case hbind => rfl
        case hdeps => rfl
        case hdist => rfl
        case hfresh => rfl
        case hE => rfl
        case hEn => decide
        · refine DrawE.pure 0 0 rfl (.inr (by decide)) (fun L g hg hd => Nat.zero_le _) (fun g hlo hhi hF τ => ?_) ?_
          · rcases g with _ | ⟨a0, _ | ⟨a1, g⟩⟩
            all_goals first
              | (exfalso; simp only [List.length_cons, List.length_nil] at hlo hhi; omega)
              | (refine ⟨_, rfl, ?_⟩
                 refine xo_fa T_ rfl rfl rfl rfl rfl ?_
                 exact xo_fin rfl)
          refine DrawE.pure 0 0 rfl (.inr (by decide)) (fun L g hg hd => Nat.zero_le _) (fun g hlo hhi hF τ => ?_) ?_
          · rcases g with _ | ⟨a0, _ | ⟨a1, g⟩⟩
            all_goals first
              | (exfalso; simp only [List.length_cons, List.length_nil] at hlo hhi; omega)
              | (refine ⟨_, rfl, ?_⟩
                 refine xo_load0 T_ rfl rfl rfl (by repeat (first | exact List.Mem.head _ | apply List.Mem.tail | apply List.mem_append_right)) rfl rfl ?_
                 exact xo_fin rfl)
          refine DrawE.pure 0 0 rfl (.inr (by decide)) (fun L g hg hd => Nat.zero_le _) (fun g hlo hhi hF τ => ?_) ?_
          · rcases g with _ | ⟨a0, _ | ⟨a1, g⟩⟩
            all_goals first
              | (exfalso; simp only [List.length_cons, List.length_nil] at hlo hhi; omega)
              | (refine ⟨_, rfl, ?_⟩
                 refine xo_mv rfl rfl rfl ?_
                 exact xo_fin rfl)
          refine DrawE.pure 0 0 rfl (.inr (by decide)) (fun L g hg hd => Nat.zero_le _) (fun g hlo hhi hF τ => ?_) ?_
          · rcases g with _ | ⟨a0, _ | ⟨a1, g⟩⟩
            all_goals first
              | (exfalso; simp only [List.length_cons, List.length_nil] at hlo hhi; omega)
              | (refine ⟨_, rfl, ?_⟩
                 refine xo_nilck rfl rfl rfl ?_
                 exact xo_fin rfl)
          refine DrawE.pure 0 0 rfl (.inr (by decide)) (fun L g hg hd => Nat.zero_le _) (fun g hlo hhi hF τ => ?_) ?_
          · rcases g with _ | ⟨a0, _ | ⟨a1, g⟩⟩
            all_goals first
              | (exfalso; simp only [List.length_cons, List.length_nil] at hlo hhi; omega)
              | (refine ⟨_, rfl, ?_⟩
                 refine xo_fa T_ rfl rfl rfl rfl rfl ?_
                 exact xo_fin rfl)
          refine DrawE.pure 0 0 rfl (.inr (by decide)) (fun L g hg hd => Nat.zero_le _) (fun g hlo hhi hF τ => ?_) ?_
          · rcases g with _ | ⟨a0, _ | ⟨a1, g⟩⟩
            all_goals first
              | (exfalso; simp only [List.length_cons, List.length_nil] at hlo hhi; omega)
              | (refine ⟨_, rfl, ?_⟩
                 refine xo_load0 T_ rfl rfl rfl (List.Mem.tail _ (List.Mem.tail _ (List.Mem.tail _ (List.Mem.tail _ (List.Mem.tail _ (List.mem_append_left _ (stH_mem hb1))))))) rfl rfl ?_
                 exact xo_fin rfl)
          refine DrawE.pure 0 0 rfl (.inr (by decide)) (fun L g hg hd => Nat.zero_le _) (fun g hlo hhi hF τ => ?_) ?_
          · rcases g with _ | ⟨a0, _ | ⟨a1, g⟩⟩
            all_goals first
              | (exfalso; simp only [List.length_cons, List.length_nil] at hlo hhi; omega)
              | (refine ⟨_, rfl, ?_⟩
                 refine xo_add rfl rfl rfl (by omega) rfl ?_
                 exact xo_fin rfl)
          refine DrawE.pure 0 0 rfl (.inr (by decide)) (fun L g hg hd => Nat.zero_le _) (fun g hlo hhi hF τ => ?_) ?_
          · rcases g with _ | ⟨a0, _ | ⟨a1, g⟩⟩
            all_goals first
              | (exfalso; simp only [List.length_cons, List.length_nil] at hlo hhi; omega)
              | (refine ⟨_, rfl, ?_⟩
                 refine xo_fa T_ rfl rfl rfl rfl rfl ?_
                 exact xo_fin rfl)
          refine DrawE.pure 0 0 rfl (.inr (by decide)) (fun L g hg hd => Nat.zero_le _) (fun g hlo hhi hF τ => ?_) ?_
          · rcases g with _ | ⟨a0, _ | ⟨a1, g⟩⟩
            all_goals first
              | (exfalso; simp only [List.length_cons, List.length_nil] at hlo hhi; omega)
              | (refine ⟨_, rfl, ?_⟩
                 refine xo_load0 T_ rfl rfl rfl (by repeat (first | exact List.Mem.head _ | apply List.Mem.tail | apply List.mem_append_right)) rfl rfl ?_
                 exact xo_fin rfl)
          refine DrawE.pure 0 0 rfl (.inr (by decide)) (fun L g hg hd => Nat.zero_le _) (fun g hlo hhi hF τ => ?_) ?_
          · rcases g with _ | ⟨a0, _ | ⟨a1, g⟩⟩
            all_goals first
              | (exfalso; simp only [List.length_cons, List.length_nil] at hlo hhi; omega)
              | (refine ⟨_, rfl, ?_⟩
                 refine xo_mv rfl rfl rfl ?_
                 exact xo_fin rfl)
          refine DrawE.pure 0 0 rfl (.inr (by decide)) (fun L g hg hd => Nat.zero_le _) (fun g hlo hhi hF τ => ?_) ?_
          · rcases g with _ | ⟨a0, _ | ⟨a1, g⟩⟩
            all_goals first
              | (exfalso; simp only [List.length_cons, List.length_nil] at hlo hhi; omega)
              | (refine ⟨_, rfl, ?_⟩
                 refine xo_nilck rfl rfl rfl ?_
                 exact xo_fin rfl)
          refine DrawE.pure 0 0 rfl (.inr (by decide)) (fun L g hg hd => Nat.zero_le _) (fun g hlo hhi hF τ => ?_) ?_
          · rcases g with _ | ⟨a0, _ | ⟨a1, g⟩⟩
            all_goals first
              | (exfalso; simp only [List.length_cons, List.length_nil] at hlo hhi; omega)
              | (refine ⟨_, rfl, ?_⟩
                 refine xo_fa T_ rfl rfl rfl rfl rfl ?_
                 exact xo_fin rfl)
          refine DrawE.pure 0 0 rfl (.inr (by decide)) (fun L g hg hd => Nat.zero_le _) (fun g hlo hhi hF τ => ?_) ?_
          · rcases g with _ | ⟨a0, _ | ⟨a1, g⟩⟩
            all_goals first
              | (exfalso; simp only [List.length_cons, List.length_nil] at hlo hhi; omega)
              | (refine ⟨_, rfl, ?_⟩
                 refine xo_load0 T_ rfl rfl rfl (List.Mem.tail _ (List.Mem.tail _ (List.Mem.tail _ (List.Mem.tail _ (List.Mem.tail _ (List.mem_append_left _ (stH_mem hb1))))))) rfl rfl ?_
                 exact xo_fin rfl)
          refine DrawE.pure 0 0 rfl (.inr (by decide)) (fun L g hg hd => Nat.zero_le _) (fun g hlo hhi hF τ => ?_) ?_
          · rcases g with _ | ⟨a0, _ | ⟨a1, g⟩⟩
            all_goals first
              | (exfalso; simp only [List.length_cons, List.length_nil] at hlo hhi; omega)
              | (refine ⟨_, rfl, ?_⟩
                 refine xo_add rfl rfl rfl (by omega) rfl ?_
                 exact xo_fin rfl)
          refine DrawE.pure 0 0 rfl (.inr (by decide)) (fun L g hg hd => Nat.zero_le _) (fun g hlo hhi hF τ => ?_) ?_
          · rcases g with _ | ⟨a0, _ | ⟨a1, g⟩⟩
            all_goals first
              | (exfalso; simp only [List.length_cons, List.length_nil] at hlo hhi; omega)
              | (refine ⟨_, rfl, ?_⟩
                 refine xo_fa T_ rfl rfl rfl rfl rfl ?_
                 exact xo_fin rfl)
          refine DrawE.pure 0 0 rfl (.inr (by decide)) (fun L g hg hd => Nat.zero_le _) (fun g hlo hhi hF τ => ?_) ?_
          · rcases g with _ | ⟨a0, _ | ⟨a1, g⟩⟩
            all_goals first
              | (exfalso; simp only [List.length_cons, List.length_nil] at hlo hhi; omega)
              | (refine ⟨_, rfl, ?_⟩
                 refine xo_load0 T_ rfl rfl rfl (by repeat (first | exact List.Mem.head _ | apply List.Mem.tail | apply List.mem_append_right)) rfl rfl ?_
                 exact xo_fin rfl)
          refine DrawE.pure 0 0 rfl (.inr (by decide)) (fun L g hg hd => Nat.zero_le _) (fun g hlo hhi hF τ => ?_) ?_
          · rcases g with _ | ⟨a0, _ | ⟨a1, g⟩⟩
            all_goals first
              | (exfalso; simp only [List.length_cons, List.length_nil] at hlo hhi; omega)
              | (refine ⟨_, rfl, ?_⟩
                 refine xo_mv rfl rfl rfl ?_
                 exact xo_fin rfl)
          refine DrawE.pure 0 0 rfl (.inr (by decide)) (fun L g hg hd => Nat.zero_le _) (fun g hlo hhi hF τ => ?_) ?_
          · rcases g with _ | ⟨a0, _ | ⟨a1, g⟩⟩
            all_goals first
              | (exfalso; simp only [List.length_cons, List.length_nil] at hlo hhi; omega)
              | (refine ⟨_, rfl, ?_⟩
                 refine xo_nilck rfl rfl rfl ?_
                 exact xo_fin rfl)
          refine DrawE.pure 0 0 rfl (.inr (by decide)) (fun L g hg hd => Nat.zero_le _) (fun g hlo hhi hF τ => ?_) ?_
          · rcases g with _ | ⟨a0, _ | ⟨a1, g⟩⟩
            all_goals first
              | (exfalso; simp only [List.length_cons, List.length_nil] at hlo hhi; omega)
              | (refine ⟨_, rfl, ?_⟩
                 refine xo_fa T_ rfl rfl rfl rfl rfl ?_
                 exact xo_fin rfl)
          refine DrawE.pure 0 0 rfl (.inr (by decide)) (fun L g hg hd => Nat.zero_le _) (fun g hlo hhi hF τ => ?_) ?_
          · rcases g with _ | ⟨a0, _ | ⟨a1, g⟩⟩
            all_goals first
              | (exfalso; simp only [List.length_cons, List.length_nil] at hlo hhi; omega)
              | (refine ⟨_, rfl, ?_⟩
                 refine xo_load0 T_ rfl rfl rfl (List.Mem.tail _ (List.Mem.tail _ (List.Mem.tail _ (List.Mem.tail _ (List.Mem.tail _ (List.mem_append_left _ (stH_mem hb1))))))) rfl rfl ?_
                 exact xo_fin rfl)
          refine DrawE.pure 0 0 rfl (.inr (by decide)) (fun L g hg hd => Nat.zero_le _) (fun g hlo hhi hF τ => ?_) ?_
          · rcases g with _ | ⟨a0, _ | ⟨a1, g⟩⟩
            all_goals first
              | (exfalso; simp only [List.length_cons, List.length_nil] at hlo hhi; omega)
              | (refine ⟨_, rfl, ?_⟩
                 refine xo_add rfl rfl rfl (by omega) rfl ?_
                 exact xo_fin rfl)
          refine DrawE.pure 0 0 rfl (.inr (by decide)) (fun L g hg hd => Nat.zero_le _) (fun g hlo hhi hF τ => ?_) ?_
          · rcases g with _ | ⟨a0, _ | ⟨a1, g⟩⟩
            all_goals first
              | (exfalso; simp only [List.length_cons, List.length_nil] at hlo hhi; omega)
              | (refine ⟨_, rfl, ?_⟩
                 refine xo_fa T_ rfl rfl rfl rfl rfl ?_
                 exact xo_fin rfl)
          refine DrawE.pure 0 0 rfl (.inr (by decide)) (fun L g hg hd => Nat.zero_le _) (fun g hlo hhi hF τ => ?_) ?_
          · rcases g with _ | ⟨a0, _ | ⟨a1, g⟩⟩
            all_goals first
              | (exfalso; simp only [List.length_cons, List.length_nil] at hlo hhi; omega)
              | (refine ⟨_, rfl, ?_⟩
                 refine xo_load0 T_ rfl rfl rfl (by repeat (first | exact List.Mem.head _ | apply List.Mem.tail | apply List.mem_append_right)) rfl rfl ?_
                 exact xo_fin rfl)
          refine DrawE.pure 0 0 rfl (.inr (by decide)) (fun L g hg hd => Nat.zero_le _) (fun g hlo hhi hF τ => ?_) ?_
          · rcases g with _ | ⟨a0, _ | ⟨a1, g⟩⟩
            all_goals first
              | (exfalso; simp only [List.length_cons, List.length_nil] at hlo hhi; omega)
              | (refine ⟨_, rfl, ?_⟩
                 refine xo_mv rfl rfl rfl ?_
                 exact xo_fin rfl)
          refine DrawE.pure 0 0 rfl (.inr (by decide)) (fun L g hg hd => Nat.zero_le _) (fun g hlo hhi hF τ => ?_) ?_
          · rcases g with _ | ⟨a0, _ | ⟨a1, g⟩⟩
            all_goals first
              | (exfalso; simp only [List.length_cons, List.length_nil] at hlo hhi; omega)
              | (refine ⟨_, rfl, ?_⟩
                 refine xo_nilck rfl rfl rfl ?_
                 exact xo_fin rfl)
          refine DrawE.pure 0 0 rfl (.inr (by decide)) (fun L g hg hd => Nat.zero_le _) (fun g hlo hhi hF τ => ?_) ?_
          · rcases g with _ | ⟨a0, _ | ⟨a1, g⟩⟩
            all_goals first
              | (exfalso; simp only [List.length_cons, List.length_nil] at hlo hhi; omega)
              | (refine ⟨_, rfl, ?_⟩
                 refine xo_fa T_ rfl rfl rfl rfl rfl ?_
                 exact xo_fin rfl)
          refine DrawE.pure 0 0 rfl (.inr (by decide)) (fun L g hg hd => Nat.zero_le _) (fun g hlo hhi hF τ => ?_) ?_
          · rcases g with _ | ⟨a0, _ | ⟨a1, g⟩⟩
            all_goals first
              | (exfalso; simp only [List.length_cons, List.length_nil] at hlo hhi; omega)
              | (refine ⟨_, rfl, ?_⟩
                 refine xo_load0 T_ rfl rfl rfl (List.Mem.tail _ (List.Mem.tail _ (List.Mem.tail _ (List.Mem.tail _ (List.Mem.tail _ (List.mem_append_left _ (stH_mem hb1))))))) rfl rfl ?_
                 exact xo_fin rfl)
          refine DrawE.pure 0 0 rfl (.inr (by decide)) (fun L g hg hd => Nat.zero_le _) (fun g hlo hhi hF τ => ?_) ?_
          · rcases g with _ | ⟨a0, _ | ⟨a1, g⟩⟩
            all_goals first
              | (exfalso; simp only [List.length_cons, List.length_nil] at hlo hhi; omega)
              | (refine ⟨_, rfl, ?_⟩
                 refine xo_add rfl rfl rfl (by omega) rfl ?_
                 exact xo_fin rfl)
          refine DrawE.pure 0 0 rfl (.inr (by decide)) (fun L g hg hd => Nat.zero_le _) (fun g hlo hhi hF τ => ?_) ?_
          · rcases g with _ | ⟨a0, _ | ⟨a1, g⟩⟩
            all_goals first
              | (exfalso; simp only [List.length_cons, List.length_nil] at hlo hhi; omega)
              | (refine ⟨_, rfl, ?_⟩
                 refine xo_fa T_ rfl rfl rfl rfl rfl ?_
                 exact xo_fin rfl)
          refine DrawE.pure 0 0 rfl (.inr (by decide)) (fun L g hg hd => Nat.zero_le _) (fun g hlo hhi hF τ => ?_) ?_
          · rcases g with _ | ⟨a0, _ | ⟨a1, g⟩⟩
            all_goals first
              | (exfalso; simp only [List.length_cons, List.length_nil] at hlo hhi; omega)
              | (refine ⟨_, rfl, ?_⟩
                 refine xo_load0 T_ rfl rfl rfl (by repeat (first | exact List.Mem.head _ | apply List.Mem.tail | apply List.mem_append_right)) rfl rfl ?_
                 exact xo_fin rfl)
          refine DrawE.pure 0 0 rfl (.inr (by decide)) (fun L g hg hd => Nat.zero_le _) (fun g hlo hhi hF τ => ?_) ?_
          · rcases g with _ | ⟨a0, _ | ⟨a1, g⟩⟩
            all_goals first
              | (exfalso; simp only [List.length_cons, List.length_nil] at hlo hhi; omega)
              | (refine ⟨_, rfl, ?_⟩
                 refine xo_mv rfl rfl rfl ?_
                 exact xo_fin rfl)
          refine DrawE.pure 0 0 rfl (.inr (by decide)) (fun L g hg hd => Nat.zero_le _) (fun g hlo hhi hF τ => ?_) ?_
          · rcases g with _ | ⟨a0, _ | ⟨a1, g⟩⟩
            all_goals first
              | (exfalso; simp only [List.length_cons, List.length_nil] at hlo hhi; omega)
              | (refine ⟨_, rfl, ?_⟩
                 refine xo_nilck rfl rfl rfl ?_
                 exact xo_fin rfl)
          refine DrawE.pure 0 0 rfl (.inr (by decide)) (fun L g hg hd => Nat.zero_le _) (fun g hlo hhi hF τ => ?_) ?_
          · rcases g with _ | ⟨a0, _ | ⟨a1, g⟩⟩
            all_goals first
              | (exfalso; simp only [List.length_cons, List.length_nil] at hlo hhi; omega)
              | (refine ⟨_, rfl, ?_⟩
                 refine xo_fa T_ rfl rfl rfl rfl rfl ?_
                 exact xo_fin rfl)
          refine DrawE.pure 0 0 rfl (.inr (by decide)) (fun L g hg hd => Nat.zero_le _) (fun g hlo hhi hF τ => ?_) ?_
          · rcases g with _ | ⟨a0, _ | ⟨a1, g⟩⟩
            all_goals first
              | (exfalso; simp only [List.length_cons, List.length_nil] at hlo hhi; omega)
              | (refine ⟨_, rfl, ?_⟩
                 refine xo_load0 T_ rfl rfl rfl (List.Mem.tail _ (List.Mem.tail _ (List.Mem.tail _ (List.Mem.tail _ (List.Mem.tail _ (List.mem_append_left _ (stH_mem hb1))))))) rfl rfl ?_
                 exact xo_fin rfl)
          refine DrawE.pure 0 0 rfl (.inr (by decide)) (fun L g hg hd => Nat.zero_le _) (fun g hlo hhi hF τ => ?_) ?_
          · rcases g with _ | ⟨a0, _ | ⟨a1, g⟩⟩
            all_goals first
              | (exfalso; simp only [List.length_cons, List.length_nil] at hlo hhi; omega)
              | (refine ⟨_, rfl, ?_⟩
                 refine xo_add rfl rfl rfl (by omega) rfl ?_
                 exact xo_fin rfl)
          refine DrawE.pure 0 0 rfl (.inr (by decide)) (fun L g hg hd => Nat.zero_le _) (fun g hlo hhi hF τ => ?_) ?_
          · rcases g with _ | ⟨a0, _ | ⟨a1, g⟩⟩
            all_goals first
              | (exfalso; simp only [List.length_cons, List.length_nil] at hlo hhi; omega)
              | (refine ⟨_, rfl, ?_⟩
                 refine xo_fa T_ rfl rfl rfl rfl rfl ?_
                 exact xo_fin rfl)
          refine DrawE.pure 0 0 rfl (.inr (by decide)) (fun L g hg hd => Nat.zero_le _) (fun g hlo hhi hF τ => ?_) ?_
          · rcases g with _ | ⟨a0, _ | ⟨a1, g⟩⟩
            all_goals first
              | (exfalso; simp only [List.length_cons, List.length_nil] at hlo hhi; omega)
              | (refine ⟨_, rfl, ?_⟩
                 refine xo_load0 T_ rfl rfl rfl (by repeat (first | exact List.Mem.head _ | apply List.Mem.tail | apply List.mem_append_right)) rfl rfl ?_
                 exact xo_fin rfl)
          refine DrawE.pure 0 0 rfl (.inr (by decide)) (fun L g hg hd => Nat.zero_le _) (fun g hlo hhi hF τ => ?_) ?_
          · rcases g with _ | ⟨a0, _ | ⟨a1, g⟩⟩
            all_goals first
              | (exfalso; simp only [List.length_cons, List.length_nil] at hlo hhi; omega)
              | (refine ⟨_, rfl, ?_⟩
                 refine xo_mv rfl rfl rfl ?_
                 exact xo_fin rfl)
          refine DrawE.pure 0 0 rfl (.inr (by decide)) (fun L g hg hd => Nat.zero_le _) (fun g hlo hhi hF τ => ?_) ?_
          · rcases g with _ | ⟨a0, _ | ⟨a1, g⟩⟩
            all_goals first
              | (exfalso; simp only [List.length_cons, List.length_nil] at hlo hhi; omega)
              | (refine ⟨_, rfl, ?_⟩
                 refine xo_nilck rfl rfl rfl ?_
                 exact xo_fin rfl)
          refine DrawE.pure 0 0 rfl (.inr (by decide)) (fun L g hg hd => Nat.zero_le _) (fun g hlo hhi hF τ => ?_) ?_
          · rcases g with _ | ⟨a0, _ | ⟨a1, g⟩⟩
            all_goals first
              | (exfalso; simp only [List.length_cons, List.length_nil] at hlo hhi; omega)
              | (refine ⟨_, rfl, ?_⟩
                 refine xo_fa T_ rfl rfl rfl rfl rfl ?_
                 exact xo_fin rfl)
          refine DrawE.pure 0 0 rfl (.inr (by decide)) (fun L g hg hd => Nat.zero_le _) (fun g hlo hhi hF τ => ?_) ?_
          · rcases g with _ | ⟨a0, _ | ⟨a1, g⟩⟩
            all_goals first
              | (exfalso; simp only [List.length_cons, List.length_nil] at hlo hhi; omega)
              | (refine ⟨_, rfl, ?_⟩
                 refine xo_load0 T_ rfl rfl rfl (List.Mem.tail _ (List.Mem.tail _ (List.Mem.tail _ (List.Mem.tail _ (List.Mem.tail _ (List.mem_append_left _ (stH_mem hb1))))))) rfl rfl ?_
                 exact xo_fin rfl)
          refine DrawE.pure 0 0 rfl (.inr (by decide)) (fun L g hg hd => Nat.zero_le _) (fun g hlo hhi hF τ => ?_) ?_
          · rcases g with _ | ⟨a0, _ | ⟨a1, g⟩⟩
            all_goals first
              | (exfalso; simp only [List.length_cons, List.length_nil] at hlo hhi; omega)
              | (refine ⟨_, rfl, ?_⟩
                 refine xo_add rfl rfl rfl (by omega) rfl ?_
                 exact xo_fin rfl)
          refine DrawE.pure 0 0 rfl (.inr (by decide)) (fun L g hg hd => Nat.zero_le _) (fun g hlo hhi hF τ => ?_) ?_
          · rcases g with _ | ⟨a0, _ | ⟨a1, g⟩⟩
            all_goals first
              | (exfalso; simp only [List.length_cons, List.length_nil] at hlo hhi; omega)
              | (refine ⟨_, rfl, ?_⟩
                 refine xo_build TB_ rfl rfl rfl rfl rfl ?_
                 exact xo_fin rfl)
          refine DrawE.eff 0 rfl (by decide) rfl (fun j hj => hj) (fun j g a hj => ?_) (fun L g hg hd => Nat.zero_le _) (fun g hgl hF τ => ?_) ?_
          · rcases j with _ | _ | _ | _ | _ | _ | _ | _ | _ | _ | _ | _ | _ | _ | _ | _ | _ | _ | _ | _ | _ | _ | _ | _ | _ | _ | _ | _ | _ | _ | _ | _ | _ | _ | _ | _ | _ | _ | _ | _ | _ | _ | _ | _ | j
            all_goals first | rfl | (rcases g with _ | ⟨a0, _ | ⟨a1, g⟩⟩ <;> first | rfl | exact absurd hj (by decide) | exact absurd hj (by simp [List.getD]))
          · obtain rfl : g = [] := by
              rcases g with _ | ⟨a0, g⟩ <;> first | rfl | (exfalso; simp only [List.length_cons, List.length_nil] at hgl; omega)
            refine xo_store T_ rfl rfl rfl rfl (by repeat (first | exact List.Mem.head _ | apply List.Mem.tail | apply List.mem_append_right)) rfl rfl rfl rfl (by repeat (first | exact Upd.head | apply Upd.tail | apply Upd.app)) rfl ?_
            exact xo_finE gv0 rfl trivial
          exact DrawE.nil
        intro g hgl hF
        obtain ⟨a0, rfl⟩ : ∃ a0, g = [a0] := by
          rcases g with _ | ⟨a0, _ | ⟨a1, g⟩⟩ <;> first | exact ⟨_, rfl⟩ | (exfalso; simp only [List.length_cons, List.length_nil] at hgl; omega)
        with_reducible repeat (first | refine xq_then ?_ | refine xq_blockN ?_ | refine xq_scopeN ?_)
        with_reducible repeat refine xc_seq ?_
        with_reducible refine xc_region ?_
        refine xo_add rfl rfl rfl (by omega) rfl ?_
        refine xo_mv rfl rfl rfl ?_
        with_reducible refine xo_nil ?_
        with_reducible repeat (first | refine xq_then ?_ | refine xq_blockN ?_ | refine xq_scopeN ?_)
        exact xq_again _ _ _ _ _ (k + 1, insN x.f0 come, addS sum (storeF m x.f0)) ⟨hlt, hsB', hpl⟩ (by first | omega | (simp only; omega)) ⟨rfl, rfl, rfl, rfl, rfl, rfl, rfl, rfl, rfl, trivial⟩ (List.sublist_cons_self _ _)
      · simp only [Bool.not_eq_false'] at hz
        rw [stEq_iff.1 hz, addS_zero] at hpl
        with_reducible refine xc_skip ?_
        with_reducible repeat (first | refine xq_then ?_ | refine xq_blockN ?_ | refine xq_scopeN ?_)
        with_reducible repeat refine xc_seq ?_
        with_reducible refine xc_region ?_
        refine xo_add rfl rfl rfl (by omega) rfl ?_
        refine xo_mv rfl rfl rfl ?_
        with_reducible refine xo_nil ?_
        with_reducible repeat (first | refine xq_then ?_ | refine xq_blockN ?_ | refine xq_scopeN ?_)
        exact xq_again _ _ _ _ _ (k + 1, insN x.f0 come, sum) ⟨hlt, hsB.mono (by simp only; omega), hpl⟩ (by first | omega | (simp only; omega)) ⟨rfl, rfl, rfl, rfl, rfl, rfl, rfl, rfl, rfl, trivial⟩ (List.sublist_cons_self _ _)
  have hge : ¬ k < r.length := by have := of_decide_eq_false h; omega
  rw [List.drop_of_length_le (by omega), piecesL] at hpl
  with_reducible refine xc_exit ?_
  with_reducible repeat (first | refine xq_blockX ?_ | refine xq_thenE ?_ | refine xq_blockE rfl ?_ | refine xq_scopeE ?_)
  with_reducible repeat (first | refine xq_then ?_ | refine xq_blockN ?_ | refine xq_scopeN ?_)
  with_reducible repeat refine xc_seq ?_
  with_reducible refine xc_region ?_
  refine xo_loadN T_ rfl rfl rfl (by repeat (first | exact List.Mem.head _ | apply List.Mem.tail | apply List.mem_append_right)) rfl rfl ?_
  refine xo_store T_ rfl rfl rfl rfl (by repeat (first | exact List.Mem.head _ | exact List.mem_append_left _ (List.Mem.head _) | apply List.mem_append_right | apply List.Mem.tail)) rfl rfl rfl rfl (Upd.tail (Upd.tail (Upd.tail (Upd.tail (Upd.app (by repeat (first | exact Upd.head | apply Upd.tail | apply Upd.app)) _))))) rfl ?_
  refine xo_asg rfl rfl rfl ?_
  with_reducible refine xo_nil ?_
  with_reducible repeat (first | refine xq_then ?_ | refine xq_blockN ?_ | refine xq_scopeN ?_)
  with_reducible repeat refine xc_seq ?_
  with_reducible refine xc_ret ?_
  with_reducible repeat (first | refine xq_thenR ?_ | refine xq_blockR ?_ | refine xq_scopeR ?_)
  exact xq_retC1 T_ rfl rfl rfl rfl (by repeat (first | exact List.Mem.head _ | exact List.mem_append_left _ (List.Mem.head _) | apply List.mem_append_right | apply List.Mem.tail)) rfl fun w' hw => ⟨by rw [e1, e2, hpl]; rfl, hw.kx.below⟩
theorem pieces_enters : ∀ args w, (callFunc 13 args).run Tryd.prog w = .ok (.enter 13 args) w := enters_of Tryd.func13 (by kernel_rfl) rfl
end Go.Proofs.YtcmepdamemnbkaaDoor
namespace Go.Proofs.YtcmepdamemnbkaaDoor
open Go.RowKit Go.Proofs.YtcmepdamemnbkaaDoorW.PrintWords
set_option linter.unusedVariables false
set_option linter.unusedSimpArgs false
end Go.Proofs.YtcmepdamemnbkaaDoor
namespace Go.Proofs.YtcmepdamemnbkaaDoor
open Go.RowKit Go.Proofs.YtcmepdamemnbkaaDoorW.PrintWords
set_option linter.unusedVariables false
set_option linter.unusedSimpArgs false
end Go.Proofs.YtcmepdamemnbkaaDoor
namespace Go.Proofs.YtcmepdamemnbkaaDoor
open Go.RowKit Go.Proofs.YtcmepdamemnbkaaDoorW.PrintWords
set_option linter.unusedVariables false
set_option linter.unusedSimpArgs false
def inB (r : List RecT) (H : List Int) : List Bool := r.map fun x => decide (x.f0 ∈ H)
theorem inB_get {r : List RecT} {H : List Int} {k : Nat} (hk : k < r.length) : (inB r H).getD k false = decide (idAt r k ∈ H) := by
  simp [inB, idAt, List.getD_eq_getElem?_getD, List.getElem?_eq_getElem hk]
theorem standsF_at (bs : List Int) (ways : List (List Int)) (i : Nat) (hi : i < ways.length) : (ways.drop i).any (allIn bs) = (allIn bs (ways.getD i []) || (ways.drop (i + 1)).any (allIn bs)) := by
  rw [drop_at ways [] i hi, List.any_cons]
theorem allIn_at (bs : List Int) (way : List Int) (j : Nat) (hj : j < way.length) : allIn bs (way.drop j) = (decide (way.getD j 0 ∈ bs) && allIn bs (way.drop (j + 1))) := by
  rw [drop_at way 0 j hj, allIn_cons]
set_option maxHeartbeats 16000000 in
theorem hold_calls (A B : Option Addr) (c c' : Nat) (r : List RecT) (G : List Int) (w : World) (hr : Kd.C recK w A r.length r) (hg : Kd.C Kd.bool w B r.length (inB r G)) (hok : recordedF r = true) :
    Calls Tryd.prog 38 #[.slice A r.length c, .slice B r.length c'] w fun e w' => ∃ b o, e = .returned (.slice (some ⟨b, 0, none⟩) r.length r.length) ∧ Below w.heap.size w w' ∧ w.heap.size ≤ b ∧ w'.heap[b]? = some o ∧ cel ((inB r (holdsF r G)).map .bool) 4 o := by
  have hlen := recorded_len hok
  have hsrt := sorted_of hok
  refine x_calls (X := XNone) Tryd.func38 rfl rfl rfl ?_
  with_reducible repeat refine xc_seq ?_
  with_reducible refine xc_region ?_
  refine xo_asg rfl rfl rfl ?_
  with_reducible refine xo_nil ?_
  with_reducible repeat (first | refine xq_then ?_ | refine xq_blockN ?_ | refine xq_scopeN ?_)
  with_reducible repeat refine xc_seq ?_
  with_reducible refine xc_region ?_
  refine xo_mv rfl rfl rfl ?_
  refine xo_len T_ rfl rfl rfl rfl ?_
  refine xo_mks TR_ rfl rfl rfl rfl rfl rfl (by omega) (by omega) rfl (fun b5 => ?_)
  refine xo_asg rfl rfl rfl ?_
  with_reducible refine xo_nil ?_
  with_reducible repeat (first | refine xq_then ?_ | refine xq_blockN ?_ | refine xq_scopeN ?_)
  with_reducible repeat refine xc_seq ?_
  with_reducible refine xc_region ?_
  refine xo_asg rfl rfl rfl ?_
  with_reducible refine xo_nil ?_
  with_reducible repeat (first | refine xq_then ?_ | refine xq_blockN ?_ | refine xq_scopeN ?_)
  with_reducible repeat refine xc_seq ?_
  with_reducible refine xc_block ?_
  refine xc_loop (γ := Nat) (fun k => k ≤ r.length) (fun k => [(0, .slice A r.length c), (1, .slice B r.length c'), (5, .slice (some ⟨b5, 0, none⟩) r.length r.length), (6, .int .i64 (k : Int))])
    (fun k => [(b5, true, cel ((fillB (fun i => decide (idAt r i ∈ holdsF r G)) r.length k).map .bool) 4)]) (fun k => r.length - k) 0 (Nat.zero_le _) ⟨rfl, rfl, rfl, rfl, trivial⟩ (by rw [fillB_zero, List.map_replicate]; exact List.Sublist.refl _) ?_
  intro k hk1
  with_reducible repeat refine xc_seq ?_
  with_reducible refine xc_region ?_
  refine xo_mv rfl rfl rfl ?_
  refine xo_mv rfl rfl rfl ?_
  refine xo_len T_ rfl rfl rfl rfl ?_
  refine xo_lss rfl rfl rfl rfl ?_
  with_reducible refine xo_nil ?_
  with_reducible repeat (first | refine xq_then ?_ | refine xq_blockN ?_ | refine xq_scopeN ?_)
  with_reducible repeat refine xc_seq ?_
  refine xc_cond rfl (fun h => ?_) (fun h => ?_)
  · have hlt : k < r.length := by have := of_decide_eq_true h; omega
    obtain ⟨ad, A2, c2, rfl, r1, hc2, hw2⟩ := rec_at hr k hlt
    obtain ⟨bd, rfl, r2⟩ := bool_at hg k hlt
    rw [inB_get hlt] at r2
    obtain ⟨bs, hb1, hb2⟩ := hold_at hsrt G k hlt
    have hkn : ∀ way ∈ (r.getD k zRec).f2, ∀ n ∈ way, ∃ a, a < r.length ∧ atF r n = (a : Int) ∧ (decide (a < k) && decide (idAt r a ∈ holdsF r G)) = decide (n ∈ bs) := fun way hway n hn => by
      obtain ⟨a, h1, h2, h3⟩ := atF_known (recorded_known hok (getD_mem r zRec k hlt) hway hn)
      refine ⟨a, h1, h2, ?_⟩
      rw [h3, Bool.eq_iff_iff]
      simp only [Bool.and_eq_true, decide_eq_true_eq]
      rw [hb2]
      constructor
      · rintro ⟨h4, h5⟩
        exact ⟨h5, a, h4, h3⟩
      · rintro ⟨h5, i, h4, h6⟩
        have := sorted_inj hsrt (by omega : i < r.length) h1 (h6.trans h3.symm)
        exact ⟨by omega, h5⟩
    generalize r.getD k zRec = x at *
    have hn2 := hw2.2.1
    with_reducible refine xc_skip ?_
    with_reducible repeat (first | refine xq_then ?_ | refine xq_blockN ?_ | refine xq_scopeN ?_)
    with_reducible repeat refine xc_seq ?_
    with_reducible refine xc_block ?_
    with_reducible repeat refine xc_seq ?_
    with_reducible refine xc_region ?_
    refine xo_mv rfl rfl rfl ?_
    refine xo_mv rfl rfl rfl ?_
    refine xo_ia T_ rfl rfl rfl rfl rfl ⟨by omega, by omega⟩ rfl ?_
    refine xo_faR T_ rfl rfl rfl rfl rfl ?_
    refine xo_loadR0 T_ rfl rfl rfl (by first | assumption | exact RO.fld (by assumption) rfl) rfl ?_
    refine xo_len T_ rfl rfl rfl rfl ?_
    refine xo_eql rfl rfl rfl rfl ?_
    refine xo_asg rfl rfl rfl ?_
    with_reducible refine xo_nil ?_
    with_reducible repeat (first | refine xq_then ?_ | refine xq_blockN ?_ | refine xq_scopeN ?_)
    with_reducible repeat refine xc_seq ?_
    with_reducible refine xc_region ?_
    refine xo_asg rfl rfl rfl ?_
    with_reducible refine xo_nil ?_
    with_reducible repeat (first | refine xq_then ?_ | refine xq_blockN ?_ | refine xq_scopeN ?_)
    with_reducible repeat refine xc_seq ?_
    with_reducible refine xc_block ?_
    refine xc_loop (γ := Nat × Bool) (fun q => q.1 ≤ x.f2.length ∧ standsF bs x.f2 = (q.2 || (x.f2.drop q.1).any (allIn bs)))
      (fun q => [(0, .slice (some ad) r.length c), (1, .slice (some bd) r.length c'), (5, .slice (some ⟨b5, 0, none⟩) r.length r.length), (6, .int .i64 (k : Int)), (7, .bool q.2), (8, .int .i64 (q.1 : Int))])
      (fun _ => [(b5, true, cel ((fillB (fun i => decide (idAt r i ∈ holdsF r G)) r.length k).map .bool) 4)]) (fun q => x.f2.length - q.1) (0, decide ((x.f2.length : Int) = 0))
      ⟨Nat.zero_le _, by rw [standsF]; simp⟩ ⟨rfl, rfl, rfl, rfl, rfl, rfl, trivial⟩ (by repeat (first | exact List.Sublist.refl _ | apply List.Sublist.cons_cons | apply List.Sublist.cons | exact List.nil_sublist _)) ?_
    rintro ⟨i, an⟩ ⟨hi1, hst⟩
    simp only at hi1 hst ⊢
    with_reducible repeat refine xc_seq ?_
    with_reducible refine xc_region ?_
    refine xo_mv rfl rfl rfl ?_
    refine xo_mv rfl rfl rfl ?_
    refine xo_mv rfl rfl rfl ?_
    refine xo_ia T_ rfl rfl rfl rfl rfl ⟨by omega, by omega⟩ rfl ?_
    refine xo_faR T_ rfl rfl rfl rfl rfl ?_
    refine xo_loadR0 T_ rfl rfl rfl (by first | assumption | exact RO.fld (by assumption) rfl) rfl ?_
    refine xo_len T_ rfl rfl rfl rfl ?_
    refine xo_lss rfl rfl rfl rfl ?_
    with_reducible refine xo_nil ?_
    with_reducible repeat (first | refine xq_then ?_ | refine xq_blockN ?_ | refine xq_scopeN ?_)
    with_reducible repeat refine xc_seq ?_
    refine xc_cond rfl (fun h => ?_) (fun h => ?_)
    · have hil : i < x.f2.length := by have := of_decide_eq_true h; omega
      obtain ⟨ad2, A4, c4, rfl, r3, hc3, hw3⟩ := way_at hw2 i hil
      rw [standsF_at bs _ i hil] at hst
      have hkw := hkn _ (getD_mem x.f2 [] i hil)
      generalize x.f2.getD i [] = way at *
      have hn3 := hw3.2.1
      with_reducible refine xc_skip ?_
      with_reducible repeat (first | refine xq_then ?_ | refine xq_blockN ?_ | refine xq_scopeN ?_)
      with_reducible repeat refine xc_seq ?_
      with_reducible refine xc_block ?_
      with_reducible repeat refine xc_seq ?_
      with_reducible refine xc_region ?_
      refine xo_asg rfl rfl rfl ?_
      with_reducible refine xo_nil ?_
      with_reducible repeat (first | refine xq_then ?_ | refine xq_blockN ?_ | refine xq_scopeN ?_)
      with_reducible repeat refine xc_seq ?_
      with_reducible refine xc_region ?_
      refine xo_asg rfl rfl rfl ?_
      with_reducible refine xo_nil ?_
      with_reducible repeat (first | refine xq_then ?_ | refine xq_blockN ?_ | refine xq_scopeN ?_)
      with_reducible repeat refine xc_seq ?_
      with_reducible refine xc_block ?_
      refine xc_loop (γ := Nat × Bool) (fun q => q.1 ≤ way.length ∧ allIn bs way = (q.2 && allIn bs (way.drop q.1)))
        (fun q => [(0, .slice (some ad) r.length c), (1, .slice (some bd) r.length c'), (5, .slice (some ⟨b5, 0, none⟩) r.length r.length), (6, .int .i64 (k : Int)), (7, .bool an), (8, .int .i64 (i : Int)), (9, .bool q.2), (10, .int .i64 (q.1 : Int))])
        (fun _ => [(b5, true, cel ((fillB (fun i => decide (idAt r i ∈ holdsF r G)) r.length k).map .bool) 4)]) (fun q => way.length - q.1) (0, true)
        ⟨Nat.zero_le _, by simp⟩ ⟨rfl, rfl, rfl, rfl, rfl, rfl, rfl, rfl, trivial⟩ (by repeat (first | exact List.Sublist.refl _ | apply List.Sublist.cons_cons | apply List.Sublist.cons | exact List.nil_sublist _)) ?_
      rintro ⟨j, al⟩ ⟨hj1, hal⟩
      simp only at hj1 hal ⊢
      with_reducible repeat refine xc_seq ?_
      with_reducible refine xc_region ?_
      refine xo_mv rfl rfl rfl ?_
      refine xo_mv rfl rfl rfl ?_
      refine xo_mv rfl rfl rfl ?_
      refine xo_ia T_ rfl rfl rfl rfl rfl ⟨by omega, by omega⟩ rfl ?_
      refine xo_faR T_ rfl rfl rfl rfl rfl ?_
      refine xo_loadR0 T_ rfl rfl rfl (by first | assumption | exact RO.fld (by assumption) rfl) rfl ?_
      refine xo_mv rfl rfl rfl ?_
      refine xo_ia T_ rfl rfl rfl rfl rfl ⟨by omega, by omega⟩ rfl ?_
      refine xo_loadR0 T_ rfl rfl rfl (by first | assumption | exact RO.fld (by assumption) rfl) rfl ?_
      refine xo_len T_ rfl rfl rfl rfl ?_
      refine xo_lss rfl rfl rfl rfl ?_
      with_reducible refine xo_nil ?_
      with_reducible repeat (first | refine xq_then ?_ | refine xq_blockN ?_ | refine xq_scopeN ?_)
      with_reducible repeat refine xc_seq ?_
      refine xc_cond rfl (fun h => ?_) (fun h => ?_)
      · have hjl : j < way.length := by have := of_decide_eq_true h; omega
        obtain ⟨ad4, rfl, r4⟩ := int_at hw3 j hjl
        rw [allIn_at bs way j hjl] at hal
        obtain ⟨a, ha1, ha2, ha3⟩ := hkw _ (getD_mem way 0 j hjl)
        with_reducible refine xc_skip ?_
        with_reducible repeat (first | refine xq_then ?_ | refine xq_blockN ?_ | refine xq_scopeN ?_)
        with_reducible repeat refine xc_seq ?_
        with_reducible refine xc_block ?_
        cases hb : al
        · subst hb
          with_reducible repeat refine xc_seq ?_
          with_reducible refine xc_region ?_
          refine xo_mv rfl rfl rfl ?_
          refine xo_mv rfl rfl rfl ?_
          first
            | refine xo_not rfl rfl ?_
            | (refine xo_mv rfl rfl rfl ?_)
          first
            | refine xo_not rfl rfl ?_
            | (refine xo_mv rfl rfl rfl ?_)
          first
            | refine xo_not rfl rfl ?_
            | (refine xo_mv rfl rfl rfl ?_)
          first
            | refine xo_not rfl rfl ?_
            | (refine xo_mv rfl rfl rfl ?_)
          first
            | refine xo_not rfl rfl ?_
            | (refine xo_ia T_ rfl rfl rfl rfl rfl ⟨by omega, by omega⟩ rfl ?_)
          first
            | refine xo_not rfl rfl ?_
            | (refine xo_faR T_ rfl rfl rfl rfl rfl ?_)
          first
            | refine xo_not rfl rfl ?_
            | (refine xo_loadR0 T_ rfl rfl rfl (by first | assumption | exact RO.fld (by assumption) rfl) rfl ?_)
          first
            | refine xo_not rfl rfl ?_
            | (refine xo_mv rfl rfl rfl ?_)
          first
            | refine xo_not rfl rfl ?_
            | (refine xo_ia T_ rfl rfl rfl rfl rfl ⟨by omega, by omega⟩ rfl ?_)
          first
            | refine xo_not rfl rfl ?_
            | (refine xo_loadR0 T_ rfl rfl rfl (by first | assumption | exact RO.fld (by assumption) rfl) rfl ?_)
          first
            | refine xo_not rfl rfl ?_
            | (refine xo_mv rfl rfl rfl ?_)
          first
            | refine xo_not rfl rfl ?_
            | (refine xo_ia T_ rfl rfl rfl rfl rfl ⟨by omega, by omega⟩ rfl ?_)
          first
            | refine xo_not rfl rfl ?_
            | (refine xo_loadR0 T_ rfl rfl rfl (by first | assumption | exact RO.fld (by assumption) rfl) rfl ?_)
          first
            | refine xo_not rfl rfl ?_
            | (fail "NO RULE: Op.call -15")
          first
            | refine xo_not rfl rfl ?_
            | (refine xo_ia T_ rfl rfl rfl rfl rfl ⟨by omega, by omega⟩ rfl ?_)
          first
            | refine xo_not rfl rfl ?_
            | (refine xo_loadR0 T_ rfl rfl rfl (by first | assumption | exact RO.fld (by assumption) rfl) rfl ?_)
          first | refine xo_pickT rfl rfl rfl rfl ?_ | refine xo_pickF rfl rfl rfl rfl ?_
          refine xo_asg rfl rfl rfl ?_
          with_reducible refine xo_nil ?_
          with_reducible repeat (first | refine xq_then ?_ | refine xq_blockN ?_ | refine xq_scopeN ?_)
          with_reducible repeat refine xc_seq ?_
          with_reducible refine xc_region ?_
          refine xo_mv rfl rfl rfl ?_
          refine xo_add rfl rfl rfl (by omega) rfl ?_
          refine xo_asg rfl rfl rfl ?_
          with_reducible refine xo_nil ?_
          with_reducible repeat (first | refine xq_then ?_ | refine xq_blockN ?_ | refine xq_scopeN ?_)
          exact xq_again _ _ _ _ _ (j + 1, false) ⟨by omega, by rw [hal]; simp⟩ (by first | omega | (simp only; omega)) ⟨rfl, rfl, rfl, rfl, rfl, rfl, rfl, rfl, trivial⟩ (by repeat (first | exact List.Sublist.refl _ | apply List.Sublist.cons_cons | apply List.Sublist.cons | exact List.nil_sublist _))
        · subst hb
          with_reducible repeat refine xc_seq ?_
          with_reducible refine xc_region ?_
          refine xo_mv rfl rfl rfl ?_
          refine xo_mv rfl rfl rfl ?_
          first
            | refine xo_not rfl rfl ?_
            | (refine xo_mv rfl rfl rfl ?_)
          first
            | refine xo_not rfl rfl ?_
            | (refine xo_mv rfl rfl rfl ?_)
          first
            | refine xo_not rfl rfl ?_
            | (refine xo_mv rfl rfl rfl ?_)
          first
            | refine xo_not rfl rfl ?_
            | (refine xo_mv rfl rfl rfl ?_)
          first
            | refine xo_not rfl rfl ?_
            | (refine xo_ia T_ rfl rfl rfl rfl rfl ⟨by omega, by omega⟩ rfl ?_)
          first
            | refine xo_not rfl rfl ?_
            | (refine xo_faR T_ rfl rfl rfl rfl rfl ?_)
          first
            | refine xo_not rfl rfl ?_
            | (refine xo_loadR0 T_ rfl rfl rfl (by first | assumption | exact RO.fld (by assumption) rfl) rfl ?_)
          first
            | refine xo_not rfl rfl ?_
            | (refine xo_mv rfl rfl rfl ?_)
          first
            | refine xo_not rfl rfl ?_
            | (refine xo_ia T_ rfl rfl rfl rfl rfl ⟨by omega, by omega⟩ rfl ?_)
          first
            | refine xo_not rfl rfl ?_
            | (refine xo_loadR0 T_ rfl rfl rfl (by first | assumption | exact RO.fld (by assumption) rfl) rfl ?_)
          first
            | refine xo_not rfl rfl ?_
            | (refine xo_mv rfl rfl rfl ?_)
          first
            | refine xo_not rfl rfl ?_
            | (refine xo_ia T_ rfl rfl rfl rfl rfl ⟨by omega, by omega⟩ rfl ?_)
          first
            | refine xo_not rfl rfl ?_
            | (refine xo_loadR0 T_ rfl rfl rfl (by first | assumption | exact RO.fld (by assumption) rfl) rfl ?_)
          first
            | refine xo_not rfl rfl ?_
            | (refine xo_callB (v := .int .i64 (a : Int)) (fs := []) (cs := []) rfl rfl rfl at_enters rfl (fun w1 hw1 => by rw [← ha2]; exact at_calls _ _ _ _ w1 (Kd.C_below hr hw1.kx.below)) ?_)
          first
            | refine xo_not rfl rfl ?_
            | (refine xo_ia T_ rfl rfl rfl rfl rfl ⟨by omega, by omega⟩ rfl ?_)
          first
            | refine xo_not rfl rfl ?_
            | (refine xo_loadI T_ rfl rfl rfl (by repeat (first | exact List.Mem.head _ | apply List.Mem.tail | apply List.mem_append_right)) (by rw [fill_load ha1, ha3]) rfl ?_)
          first | refine xo_pickT rfl rfl rfl rfl ?_ | refine xo_pickF rfl rfl rfl rfl ?_
          refine xo_asg rfl rfl rfl ?_
          with_reducible refine xo_nil ?_
          with_reducible repeat (first | refine xq_then ?_ | refine xq_blockN ?_ | refine xq_scopeN ?_)
          with_reducible repeat refine xc_seq ?_
          with_reducible refine xc_region ?_
          refine xo_mv rfl rfl rfl ?_
          refine xo_add rfl rfl rfl (by omega) rfl ?_
          refine xo_asg rfl rfl rfl ?_
          with_reducible refine xo_nil ?_
          with_reducible repeat (first | refine xq_then ?_ | refine xq_blockN ?_ | refine xq_scopeN ?_)
          exact xq_again _ _ _ _ _ (j + 1, decide (way.getD j 0 ∈ bs)) ⟨by omega, by rw [hal, Bool.true_and]⟩ (by first | omega | (simp only; omega)) ⟨rfl, rfl, rfl, rfl, rfl, rfl, rfl, rfl, trivial⟩ (by repeat (first | exact List.Sublist.refl _ | apply List.Sublist.cons_cons | apply List.Sublist.cons | exact List.nil_sublist _))
      · have hge : ¬ j < way.length := by have := of_decide_eq_false h; omega
        rw [List.drop_of_length_le (by omega)] at hal
        have hal2 : allIn bs way = al := by rw [hal]; simp [allIn]
        with_reducible refine xc_exit ?_
        with_reducible repeat (first | refine xq_blockX ?_ | refine xq_thenE ?_ | refine xq_blockE rfl ?_ | refine xq_scopeE ?_)
        with_reducible repeat (first | refine xq_then ?_ | refine xq_blockN ?_ | refine xq_scopeN ?_)
        cases hb : an
        all_goals
          subst hb
          with_reducible repeat refine xc_seq ?_
          with_reducible refine xc_region ?_
          refine xo_mv rfl rfl rfl ?_
          refine xo_mv rfl rfl rfl ?_
          first
            | refine xo_not rfl rfl ?_
            | (refine xo_mv rfl rfl rfl ?_)
          first | refine xo_pickT rfl rfl rfl rfl ?_ | refine xo_pickF rfl rfl rfl rfl ?_
          refine xo_asg rfl rfl rfl ?_
          with_reducible refine xo_nil ?_
          with_reducible repeat (first | refine xq_then ?_ | refine xq_blockN ?_ | refine xq_scopeN ?_)
          with_reducible repeat refine xc_seq ?_
          with_reducible refine xc_region ?_
          refine xo_mv rfl rfl rfl ?_
          refine xo_add rfl rfl rfl (by omega) rfl ?_
          refine xo_asg rfl rfl rfl ?_
          with_reducible refine xo_nil ?_
          with_reducible repeat (first | refine xq_then ?_ | refine xq_blockN ?_ | refine xq_scopeN ?_)
        · exact xq_again _ _ _ _ _ (i + 1, al) ⟨by omega, by rw [hst, hal2, Bool.false_or]⟩ (by first | omega | (simp only; omega)) ⟨rfl, rfl, rfl, rfl, rfl, rfl, trivial⟩ (by repeat (first | exact List.Sublist.refl _ | apply List.Sublist.cons_cons | apply List.Sublist.cons | exact List.nil_sublist _))
        · exact xq_again _ _ _ _ _ (i + 1, true) ⟨by omega, by rw [hst]; simp⟩ (by first | omega | (simp only; omega)) ⟨rfl, rfl, rfl, rfl, rfl, rfl, trivial⟩ (by repeat (first | exact List.Sublist.refl _ | apply List.Sublist.cons_cons | apply List.Sublist.cons | exact List.nil_sublist _))
    · have hge : ¬ i < x.f2.length := by have := of_decide_eq_false h; omega
      rw [List.drop_of_length_le (by omega)] at hst
      simp only [List.any_nil, Bool.or_false] at hst
      rw [hst] at hb1
      with_reducible refine xc_exit ?_
      with_reducible repeat (first | refine xq_blockX ?_ | refine xq_thenE ?_ | refine xq_blockE rfl ?_ | refine xq_scopeE ?_)
      with_reducible repeat (first | refine xq_then ?_ | refine xq_blockN ?_ | refine xq_scopeN ?_)
      cases hb : an
      all_goals
        subst hb
        with_reducible repeat refine xc_seq ?_
        with_reducible refine xc_region ?_
        refine xo_mv rfl rfl rfl ?_
        refine xo_mv rfl rfl rfl ?_
        refine xo_mv rfl rfl rfl ?_
        refine xo_mv rfl rfl rfl ?_
        first
          | refine xo_not rfl rfl ?_
          | (refine xo_mv rfl rfl rfl ?_)
        first
          | refine xo_not rfl rfl ?_
          | (refine xo_mv rfl rfl rfl ?_)
        first
          | refine xo_not rfl rfl ?_
          | (refine xo_ia T_ rfl rfl rfl rfl rfl ⟨by omega, by omega⟩ rfl ?_)
        first
          | refine xo_not rfl rfl ?_
          | (refine xo_loadR0 T_ rfl rfl rfl (by first | assumption | exact RO.fld (by assumption) rfl) rfl ?_)
        first
          | refine xo_not rfl rfl ?_
          | (refine xo_notOp rfl rfl rfl ?_)
        first | refine xo_pickT rfl rfl rfl rfl ?_ | refine xo_pickF rfl rfl rfl rfl ?_
        refine xo_ia T_ rfl rfl rfl rfl rfl ⟨by omega, by omega⟩ rfl ?_
        refine xo_storeI T_ rfl rfl rfl rfl (by repeat (first | exact List.Mem.head _ | apply List.Mem.tail | apply List.mem_append_right)) rfl rfl (fill_lt hlt) (fill_upd (by rw [hb1]; rfl)) rfl ?_
        with_reducible refine xo_nil ?_
        with_reducible repeat (first | refine xq_then ?_ | refine xq_blockN ?_ | refine xq_scopeN ?_)
        with_reducible repeat refine xc_seq ?_
        with_reducible refine xc_region ?_
        refine xo_mv rfl rfl rfl ?_
        refine xo_add rfl rfl rfl (by omega) rfl ?_
        refine xo_asg rfl rfl rfl ?_
        with_reducible refine xo_nil ?_
        with_reducible repeat (first | refine xq_then ?_ | refine xq_blockN ?_ | refine xq_scopeN ?_)
        exact xq_again _ _ _ _ _ (k + 1) (by omega) (by omega) ⟨rfl, rfl, rfl, rfl, trivial⟩ (by repeat (first | exact List.Sublist.refl _ | apply List.Sublist.cons_cons | apply List.Sublist.cons | exact List.nil_sublist _))
  · have hge : ¬ k < r.length := by have := of_decide_eq_false h; omega
    have hkk : k = r.length := by omega
    subst hkk
    with_reducible refine xc_exit ?_
    with_reducible repeat (first | refine xq_blockX ?_ | refine xq_thenE ?_ | refine xq_blockE rfl ?_ | refine xq_scopeE ?_)
    with_reducible repeat (first | refine xq_then ?_ | refine xq_blockN ?_ | refine xq_scopeN ?_)
    with_reducible repeat refine xc_seq ?_
    with_reducible refine xc_region ?_
    refine xo_mv rfl rfl rfl ?_
    refine xo_asg rfl rfl rfl ?_
    with_reducible refine xo_nil ?_
    with_reducible repeat (first | refine xq_then ?_ | refine xq_blockN ?_ | refine xq_scopeN ?_)
    with_reducible repeat refine xc_seq ?_
    with_reducible refine xc_ret ?_
    with_reducible repeat (first | refine xq_thenR ?_ | refine xq_blockR ?_ | refine xq_scopeR ?_)
    refine xq_ret1 rfl rfl fun w' hw => ?_
    obtain ⟨o, h1, h2⟩ := hw.bl _ (List.Mem.head _)
    refine ⟨b5, o, rfl, hw.kx.below, hw.own (List.Mem.head _), h1, ?_⟩
    rw [inB, ← fill_all (fun i => decide (i ∈ holdsF r G))]
    exact h2
theorem hold_enters : ∀ args w, (callFunc 38 args).run Tryd.prog w = .ok (.enter 38 args) w := enters_of Tryd.func38 (by kernel_rfl) rfl
end Go.Proofs.YtcmepdamemnbkaaDoor
namespace Go.Proofs.YtcmepdamemnbkaaDoor
open Go.RowKit Go.Proofs.YtcmepdamemnbkaaDoorW.PrintWords
set_option linter.unusedVariables false
set_option linter.unusedSimpArgs false
theorem recF_before : ∀ (r : List RecT) (bs : List Int) (last : Int) (k : Nat), recF bs last r = true → k < r.length → ∀ way ∈ (r.getD k zRec).f2, ∀ n ∈ way, n ∈ bs ∨ ∃ a, a < k ∧ idAt r a = n
  | [], _, _, _, _, hk, _, _, _, _ => absurd hk (by simp)
  | y :: r, bs, last, 0, h, _, way, hw, n, hn => by
    simp only [recF, Bool.and_eq_true] at h
    obtain ⟨_, h1, h2⟩ := h
    rw [waysF, List.all_eq_true] at h1
    have := h1 way hw
    simp only [Bool.and_eq_true] at this
    exact .inl (wayF_mem way _ this.1 n hn)
  | y :: r, bs, last, k + 1, h, hk, way, hw, n, hn => by
    simp only [recF, Bool.and_eq_true] at h
    obtain ⟨_, h1, h2⟩ := h
    rcases recF_before r _ _ k h2 (by simpa using hk) way (by simpa using hw) n hn with h3 | ⟨a, h3, h4⟩
    · rcases mem_insN.1 h3 with rfl | h3
      · exact .inr ⟨0, by omega, rfl⟩
      · exact .inl h3
    · exact .inr ⟨a + 1, by omega, by simpa [idAt] using h4⟩
theorem recorded_before {r : List RecT} (h : recordedF r = true) {k : Nat} (hk : k < r.length) {way : List Int} (hw : way ∈ (r.getD k zRec).f2) {n : Int} (hn : n ∈ way) : ∃ a, a < k ∧ a < r.length ∧ idAt r a = n := by
  simp only [recordedF, Bool.and_eq_true] at h
  rcases recF_before r _ _ k h.1 hk way hw n hn with h1 | ⟨a, h1, h2⟩
  · cases h1
  · exact ⟨a, h1, by omega, h2⟩
end Go.Proofs.YtcmepdamemnbkaaDoor
namespace Go.Proofs.YtcmepdamemnbkaaDoor
open Go.Shelf Go.RowKit
set_option maxRecDepth 100000
def ren189 : Ren := ⟨fun n => bif Nat.beq n 125 then 85 else bif Nat.beq n 128 then 96 else bif Nat.beq n 129 then 97 else bif Nat.beq n 189 then 72 else bif Nat.beq n 215 then 98 else bif Nat.beq n 216 then 93 else bif Nat.beq n 257 then 84 else bif Nat.beq n 294 then 87 else bif Nat.beq n 295 then 88 else bif Nat.beq n 296 then 89 else bif Nat.beq n 297 then 90 else bif Nat.beq n 298 then 91 else bif Nat.beq n 299 then 92 else bif Nat.beq n 300 then 94 else bif Nat.beq n 301 then 95 else bif Nat.beq n 328 then 99 else bif Nat.beq n 329 then 100 else bif Nat.beq n 330 then 101 else bif Nat.beq n 331 then 102 else bif Nat.beq n 332 then 103 else bif Nat.beq n 343 then 104 else n, fun n => bif Nat.beq n 0 then 0 else bif Nat.beq n 3 then 3 else bif Nat.beq n 4 then 4 else bif Nat.beq n 5 then 5 else bif Nat.beq n 9 then 9 else bif Nat.beq n 28 then 33 else bif Nat.beq n 46 then 126 else bif Nat.beq n 51 then 59 else bif Nat.beq n 53 then 138 else bif Nat.beq n 131 then 65 else bif Nat.beq n 182 then 129 else bif Nat.beq n 183 then 130 else bif Nat.beq n 218 then 139 else bif Nat.beq n 222 then 143 else bif Nat.beq n 228 then 145 else bif Nat.beq n 229 then 146 else n, fun n => n⟩
theorem lays189 : Lays.n189 Tryd.prog ren189 where
  mixed := T_.mixed
  f125 := by kernel_rfl
  f128 := by kernel_rfl
  f129 := by kernel_rfl
  f189 := by kernel_rfl
  f215 := by kernel_rfl
  f216 := by kernel_rfl
  f257 := by kernel_rfl
  f294 := by kernel_rfl
  f295 := by kernel_rfl
  f296 := by kernel_rfl
  f297 := by kernel_rfl
  f298 := by kernel_rfl
  f299 := by kernel_rfl
  f300 := by kernel_rfl
  f301 := by kernel_rfl
  f328 := by kernel_rfl
  f329 := by kernel_rfl
  f330 := by kernel_rfl
  f331 := by kernel_rfl
  f332 := by kernel_rfl
  f343 := by kernel_rfl
  t0 := by kernel_rfl
  a0 := fun w => by kernel_rfl
  z0 := fun w => by kernel_rfl
  v0 := fun w => by kernel_rfl
  t3 := by kernel_rfl
  a3 := fun w => by kernel_rfl
  z3 := fun w => by kernel_rfl
  v3 := fun w => by kernel_rfl
  t4 := by kernel_rfl
  a4 := fun w => by kernel_rfl
  z4 := fun w => by kernel_rfl
  v4 := fun w => by kernel_rfl
  t5 := by kernel_rfl
  a5 := fun w => by kernel_rfl
  z5 := fun w => by kernel_rfl
  v5 := fun w => by kernel_rfl
  t9 := by kernel_rfl
  a9 := fun w => by kernel_rfl
  z9 := fun w => by kernel_rfl
  v9 := fun w => by kernel_rfl
  t28 := by kernel_rfl
  a28 := fun w => by kernel_rfl
  z28 := fun w => by kernel_rfl
  v28 := fun w => by kernel_rfl
  t46 := by kernel_rfl
  a46 := fun w => by kernel_rfl
  z46 := fun w => by kernel_rfl
  v46 := fun w => by kernel_rfl
  t51 := by kernel_rfl
  a51 := fun w => by kernel_rfl
  z51 := fun w => by kernel_rfl
  v51 := fun w => by kernel_rfl
  t53 := by kernel_rfl
  a53 := fun w => by kernel_rfl
  z53 := fun w => by kernel_rfl
  v53 := fun w => by kernel_rfl
  t131 := by kernel_rfl
  a131 := fun w => by kernel_rfl
  z131 := fun w => by kernel_rfl
  v131 := fun w => by kernel_rfl
  t182 := by kernel_rfl
  a182 := fun w => by kernel_rfl
  z182 := fun w => by kernel_rfl
  v182 := fun w => by kernel_rfl
  t183 := by kernel_rfl
  a183 := fun w => by kernel_rfl
  z183 := fun w => by kernel_rfl
  v183 := fun w => by kernel_rfl
  t218 := by kernel_rfl
  a218 := fun w => by kernel_rfl
  z218 := fun w => by kernel_rfl
  v218 := fun w => by kernel_rfl
  t222 := by kernel_rfl
  a222 := fun w => by kernel_rfl
  z222 := fun w => by kernel_rfl
  v222 := fun w => by kernel_rfl
  t228 := by kernel_rfl
  a228 := fun w => by kernel_rfl
  z228 := fun w => by kernel_rfl
  v228 := fun w => by kernel_rfl
  t229 := by kernel_rfl
  a229 := fun w => by kernel_rfl
  z229 := fun w => by kernel_rfl
  v229 := fun w => by kernel_rfl
end Go.Proofs.YtcmepdamemnbkaaDoor
namespace Go.Proofs.YtcmepdamemnbkaaDoor
open Go.RowKit
set_option linter.unusedVariables false
set_option linter.unusedSimpArgs false
set_option maxHeartbeats 4000000 in
theorem appendSeqS_calls (g : Nat) (cs : List Value) (eg : ∀ args w, (callFunc g args).run Tryd.prog w = .ok (.enter g args) w) (need : Nat → Prop) (S : List Int → Prop) (M : Nat) (w : World) (hit : IterS Tryd.prog g cs w need S M) (hneed : ∀ k, need k → k < w.heap.size) (hlen : M ≤ 1000000) :
    Calls Tryd.prog 74 #[.slice none 0 0, .func (.func g) #[] cs.toArray] w fun e w' => ∃ (xs : List Int) (r : RowR), S xs ∧ e = .returned (valR r xs.length) ∧ RowAt 3 w.heap.size w' r xs ∧ Below w.heap.size w w' := by
  refine x_callsM 3 Tryd.func74 rfl rfl rfl (WOK.start XNone w) ?_
  with_reducible repeat refine xc_seq ?_
  with_reducible refine xc_region ?_
  refine xo_box rfl rfl rfl rfl (fun b2 => ?_)
  refine xo_asg rfl rfl rfl ?_
  with_reducible refine xo_nil ?_
  with_reducible repeat (first | refine xq_then ?_ | refine xq_blockN ?_ | refine xq_scopeN ?_)
  with_reducible repeat refine xc_seq ?_
  with_reducible refine xc_region ?_
  refine xo_mv rfl rfl rfl ?_
  with_reducible refine xo_nil ?_
  with_reducible repeat (first | refine xq_then ?_ | refine xq_blockN ?_ | refine xq_scopeN ?_)
  with_reducible repeat refine xc_seq ?_
  with_reducible refine xc_block ?_
  refine xc_know (φ := w.heap.size ≤ b2) (fun w1 hw1 => hw1.own (by repeat (first | exact List.Mem.head _ | apply List.Mem.tail | apply List.mem_append_right))) fun hb2 => ?_
  refine xc_rangeS (by omega) rfl eg rfl (fun k => k < w.heap.size) (fun w1 hw1 k hk => Nat.lt_of_lt_of_le hk hw1.kx.size) (fun w1 hw1 => hit w1 hw1.kx.size (fun k hk => hw1.kx.below.block k (hneed k hk)) _ hneed _)
    (γ := RowR) (fun ys r => (r = none → ys = []) ∧ ∀ p, r = some p → w.heap.size ≤ p.1) (fun ys r => hpR 3 1 r ys.length (ys.map (.int .i64)) ++ [(b2, true, cel [valR r ys.length] 33)]) none ⟨fun _ => rfl, fun p h => by cases h⟩ (List.Sublist.refl _) ?_ ?_ (fun x => [(2, .pointer (some ⟨b2, 0, none⟩)), (5, .int .i64 x)]) ?_ ?_ ?_
  · intro ys r hC e he
    left
    intro o ho
    rcases List.mem_append.1 he with he | he
    · cases r with
      | none => cases he
      | some p =>
        simp only [hpR, List.mem_singleton] at he
        subst he
        obtain ⟨cur, rfl, _⟩ := ho
        rfl
    · simp only [List.mem_singleton] at he
      subst he
      rw [show o = _ from ho]
      rfl
  · rintro ys r ⟨_, hC⟩ e he _
    rcases List.mem_append.1 he with he | he
    · cases r with
      | none => cases he
      | some p =>
        simp only [hpR, List.mem_singleton] at he
        subst he
        exact Nat.not_lt.2 (hC p rfl)
    · simp only [List.mem_singleton] at he
      subst he
      exact Nat.not_lt.2 hb2
  · intro l x W
    with_reducible repeat refine xc_seq ?_
    with_reducible refine xc_region ?_
    refine xo_asg rfl rfl rfl ?_
    with_reducible refine xo_nil ?_
    with_reducible repeat (first | refine xq_then ?_ | refine xq_blockN ?_ | refine xq_scopeN ?_)
    exact fun a w1 ha hw1 => ⟨ha.sub ⟨rfl, rfl, trivial⟩, hw1.kx⟩
  · rintro l ys x r W ⟨hC1, hC2⟩ hlt hW
    with_reducible repeat refine xc_seq ?_
    with_reducible refine xc_block ?_
    with_reducible repeat refine xc_seq ?_
    with_reducible refine xc_region ?_
    refine xo_load0 T_ rfl rfl rfl (by repeat (first | exact List.Mem.head _ | apply List.Mem.tail | apply List.mem_append_right)) rfl rfl ?_
    refine xo_mv rfl rfl rfl ?_
    refine xo_bs1 T_ rfl rfl rfl rfl rfl rfl rfl rfl (fun b10 => ?_)
    refine xo_app TR_ rfl rfl rfl rfl rfl rfl rfl rfl (by simp) rfl rfl (fun h => by rw [hC1 h]; rfl) (by omega) rfl rfl (fun r' hr' => ?_)
    rcases r' with _ | ⟨g', cap'⟩
    · exact absurd rfl hr'
    refine xo_store T_ rfl rfl rfl rfl (by repeat (first | exact List.Mem.head _ | apply List.Mem.tail | apply List.mem_append_right)) rfl rfl rfl rfl (by repeat (first | exact Upd.head | apply Upd.tail | apply Upd.app)) rfl ?_
    with_reducible refine xo_nil ?_
    with_reducible repeat (first | refine xq_then ?_ | refine xq_blockN ?_ | refine xq_scopeN ?_)
    intro a w1 ha hw1
    refine ⟨some (g', cap'), ⟨(fun h => by cases h), fun p hp => ?_⟩, ?_⟩
    · cases hp
      rcases hw1.ow (g', true, _) (by repeat (first | exact List.Mem.head _ | apply List.Mem.tail | apply List.mem_append_right)) rfl with h1 | ⟨e, he, _, rfl⟩
      · exact Nat.le_trans hW.kx.size h1
      · rcases List.mem_append.1 he with he | he
        · cases r with
          | none => cases he
          | some p =>
            simp only [hpR, List.mem_singleton] at he
            subst he
            exact hC2 p rfl
        · simp only [List.mem_singleton] at he
          subst he
          exact hb2
    · have e1 : (ys ++ [x]).length = ys.length + 1 := by simp
      have e2 : (ys ++ [x]).map (Value.int .i64) = ys.map (Value.int .i64) ++ [Value.int .i64 x] := by simp
      show WOK W _ (hpR 3 1 (some (g', cap')) (ys ++ [x]).length ((ys ++ [x]).map (.int .i64)) ++ [(b2, true, cel [valR (some (g', cap')) (ys ++ [x]).length] 33)]) w1
      rw [e1, e2]
      exact hw1
  · rintro D xs r hS ⟨hC1, hC2⟩
    with_reducible repeat (first | refine xq_then ?_ | refine xq_blockN ?_ | refine xq_scopeN ?_)
    with_reducible repeat refine xc_seq ?_
    with_reducible refine xc_region ?_
    refine xo_load0 T_ rfl rfl rfl (by repeat (first | exact List.Mem.head _ | apply List.Mem.tail | apply List.mem_append_right)) rfl rfl ?_
    refine xo_asg rfl rfl rfl ?_
    with_reducible refine xo_nil ?_
    with_reducible repeat (first | refine xq_then ?_ | refine xq_blockN ?_ | refine xq_scopeN ?_)
    with_reducible repeat refine xc_seq ?_
    with_reducible refine xc_ret ?_
    with_reducible repeat (first | refine xq_thenR ?_ | refine xq_blockR ?_ | refine xq_scopeR ?_)
    refine xq_retM1 rfl rfl fun w1 hw1 => ⟨xs, r, hS, rfl, ⟨hC1, fun p hp => ⟨hC2 p hp, ?_⟩⟩, hw1.kx.below⟩
    subst hp
    exact hw1.bl (p.1, true, orow 3 1 xs.length p.2 (xs.map (.int .i64))) (List.Mem.head _)
theorem collectS_calls (g : Nat) (cs : List Value) (eg : ∀ args w, (callFunc g args).run Tryd.prog w = .ok (.enter g args) w) (need : Nat → Prop) (S : List Int → Prop) (M : Nat) (w : World) (hit : IterS Tryd.prog g cs w need S M) (hneed : ∀ k, need k → k < w.heap.size) (hlen : M ≤ 1000000) :
    Calls Tryd.prog 56 #[.func (.func g) #[] cs.toArray] w fun e w' => ∃ (xs : List Int) (r : RowR), S xs ∧ e = .returned (valR r xs.length) ∧ RowAt 3 w.heap.size w' r xs ∧ Below w.heap.size w w' := by
  have eg2 := enters_of Tryd.func74 (by kernel_rfl) rfl
  refine x_calls (X := XNone) Tryd.func56 rfl rfl rfl ?_
  with_reducible repeat refine xc_seq ?_
  with_reducible refine xc_region ?_
  refine xo_asg rfl rfl rfl ?_
  with_reducible refine xo_nil ?_
  with_reducible repeat (first | refine xq_then ?_ | refine xq_blockN ?_ | refine xq_scopeN ?_)
  with_reducible repeat refine xc_seq ?_
  with_reducible refine xc_region ?_
  refine xo_mv rfl rfl rfl ?_
  refine xo_call (fs := []) (cs := []) rfl rfl rfl eg2 rfl (fun w1 hw1 => (appendSeqS_calls g cs eg need S M w1 (fun w2 h1 h2 => hit w2 (Nat.le_trans hw1.kx.size h1) (fun k hk => (h2 k hk).trans (hw1.kx.below.block k (hneed k hk)))) (fun k hk => Nat.lt_of_lt_of_le (hneed k hk) hw1.kx.size) hlen).mono ?_)
  rintro e w2 ⟨xs, r, hS, rfl, hrow, hb⟩
  refine ⟨_, _, rfl, hw1.row hb hrow, ?_⟩
  refine xo_asg rfl rfl rfl ?_
  with_reducible refine xo_nil ?_
  with_reducible repeat (first | refine xq_then ?_ | refine xq_blockN ?_ | refine xq_scopeN ?_)
  with_reducible repeat refine xc_seq ?_
  with_reducible refine xc_ret ?_
  with_reducible repeat (first | refine xq_thenR ?_ | refine xq_blockR ?_ | refine xq_scopeR ?_)
  exact xq_ret1 rfl rfl fun w3 hw3 => ⟨xs, r, hS, rfl, RowAt.of hw3 hrow.1, hw3.kx.below⟩
end Go.Proofs.YtcmepdamemnbkaaDoor
