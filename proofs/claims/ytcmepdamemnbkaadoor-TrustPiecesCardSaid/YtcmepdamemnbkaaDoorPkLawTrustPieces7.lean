/- ref08.Comes: which batches come of a record. / The library's own functions that the shelf's contract asks, where they lie in this program. / slices.AppendSeq, Collect over an iterator that yields one of several lists. / maps.Keys over a set of whole numbers: an iterator that yields its members in some order. / slices.Sort, slices.Sorted over a set's keys: the members in rising order. / The library's own functions that the shelf's contract asks, where they lie in this program. / slices.Sort of a nil row; slices.Sorted over a set's keys. / maps.Keys over any map with whole-number keys: an iterator that yields its keys in some order. / ref08.ids, Holds, open. / ref08.Holds, open. / ref08.Takes. / ref08: members, Carries, Ahead. / ref08.Twin: a copy of records, ways and all. / ref08: Ahead, Rests. / cmp.Compare, slices.Compare of rows that are equally long. / maps.Clone of a set: a copy. / ref08.Rests: the walk. / ref08.Causes. / The least list that is good: both searches find it. Plain Lean. / What records rest on, and causes: both searches go over the same good lists. Plain Lean. / trust.fewest: the search over a row's sets. / trust.Recall. -/
import Derived.Test.YtcmepdamemnbkaaDoorPkLawTrustPieces6
import Derived.Test.YtcmepdamemnbkaaDoorPkLawTrustPieces2
import Derived.Shelf.Sort.Plain
import Derived.Shelf.Lays
import Derived.Test.YtcmepdamemnbkaaDoorPkLawTrustPieces3
import Derived.Test.YtcmepdamemnbkaaDoorPkLawTrustPieces4
import Derived.Sort.OwnSortedInts
import Derived.Shelf.Small.Bits
import Derived.Test.YtcmepdamemnbkaaDoorPkLawTrustPieces5
import Derived.Shelf.SlMaps.Clone
namespace Go.Proofs.YtcmepdamemnbkaaDoor
open Go.RowKit Go.Proofs.YtcmepdamemnbkaaDoorW.PrintWords
set_option linter.unusedVariables false
set_option linter.unusedSimpArgs false
theorem recF_before : ∀ (r : List RecT) (bs : List Int) (last : Int) (k : Nat), recF bs last r = true → k < r.length → ∀ way ∈ (r.getD k zRec).f2, ∀ n ∈ way, n ∈ bs ∨ ∃ a, a < k ∧ idAt r a = n
  | [], _, _, _, _, hk, _, _, _, _ => absurd hk (by simp)
  | y :: r, bs, last, 0, h, _, way, hw, n, hn => by
    simp only [recF, Bool.and_eq_true] at h
    obtain ⟨_, h1, h2⟩ := h
    rw [waysF, List.all_eq_true] at h1
    have := h1 way hw
    simp only [Bool.and_eq_true] at this
    exact .inl (wayF_mem way _ this.1 n hn)
  | y :: r, bs, last, k + 1, h, hk, way, hw, n, hn => by
    simp only [recF, Bool.and_eq_true] at h
    obtain ⟨_, h1, h2⟩ := h
    rcases recF_before r _ _ k h2 (by simpa using hk) way (by simpa using hw) n hn with h3 | ⟨a, h3, h4⟩
    · rcases mem_insN.1 h3 with rfl | h3
      · exact .inr ⟨0, by omega, rfl⟩
      · exact .inl h3
    · exact .inr ⟨a + 1, by omega, by simpa [idAt] using h4⟩
theorem recorded_before {r : List RecT} (h : recordedF r = true) {k : Nat} (hk : k < r.length) {way : List Int} (hw : way ∈ (r.getD k zRec).f2) {n : Int} (hn : n ∈ way) : ∃ a, a < k ∧ a < r.length ∧ idAt r a = n := by
  simp only [recordedF, Bool.and_eq_true] at h
  rcases recF_before r _ _ k h.1 hk way hw n hn with h1 | ⟨a, h1, h2⟩
  · cases h1
  · exact ⟨a, h1, by omega, h2⟩
def comeL (id : Int) : List Int → List RecT → List Int
  | come, [] => come
  | come, x :: r => comeL id (if fromF id come x && decide (x.f1 = 3) then insN x.f0 come else come) r
def comesF (r : List RecT) (id : Int) : List Int := comeL id [] r
def cmF (r : List RecT) (id : Int) (k : Nat) : List Int := comeL id [] (r.take k)
def condF (r : List RecT) (id : Int) (k : Nat) : Bool := fromF id (cmF r id k) (r.getD k zRec) && decide ((r.getD k zRec).f1 = 3)
theorem comeL_app (id : Int) : ∀ (xs ys : List RecT) (c : List Int), comeL id c (xs ++ ys) = comeL id (comeL id c xs) ys
  | [], _, _ => rfl
  | x :: xs, ys, c => by
    show comeL id _ (xs ++ ys) = comeL id (comeL id _ xs) ys
    exact comeL_app id xs ys _
theorem cmF_succ {r : List RecT} (id : Int) {k : Nat} (hk : k < r.length) : cmF r id (k + 1) = if condF r id k then insN (idAt r k) (cmF r id k) else cmF r id k := by
  have h1 : r.getD k zRec = r[k] := by simp [List.getD_eq_getElem?_getD, List.getElem?_eq_getElem hk]
  rw [cmF, List.take_succ_eq_append_getElem hk, comeL_app, condF, idAt, h1]
  rfl
theorem cmF_mem {r : List RecT} (id : Int) : ∀ (k : Nat), k ≤ r.length → ∀ n, n ∈ cmF r id k ↔ ∃ i, i < k ∧ idAt r i = n ∧ condF r id i = true
  | 0, _, n => by simp [cmF, comeL]
  | k + 1, hk, n => by
    rw [cmF_succ (r := r) (k := k) id (by omega)]
    have ih := cmF_mem (r := r) id k (by omega) n
    by_cases h : condF r id k = true
    · rw [if_pos h, mem_insN, ih]
      constructor
      · rintro (rfl | ⟨i, h1, h2⟩)
        · exact ⟨k, by omega, rfl, h⟩
        · exact ⟨i, by omega, h2⟩
      · rintro ⟨i, h1, h2, h3⟩
        by_cases e : i = k
        · subst e; exact .inl h2.symm
        · exact .inr ⟨i, by omega, h2, h3⟩
    · rw [if_neg h, ih]
      constructor
      · rintro ⟨i, h1, h2⟩
        exact ⟨i, by omega, h2⟩
      · rintro ⟨i, h1, h2, h3⟩
        by_cases e : i = k
        · subst e; exact absurd h3 h
        · exact ⟨i, by omega, h2, h3⟩
theorem comes_at {r : List RecT} (hs : SortedIds r) (id : Int) {k : Nat} (hk : k < r.length) : decide (idAt r k ∈ comesF r id) = condF r id k := by
  have h := cmF_mem id r.length (Nat.le_refl _) (idAt r k)
  rw [cmF, List.take_of_length_le (Nat.le_refl _)] at h
  rw [Bool.eq_iff_iff, decide_eq_true_eq]
  refine h.trans ⟨?_, fun h1 => ⟨k, hk, rfl, h1⟩⟩
  rintro ⟨i, h1, h2, h3⟩
  have := sorted_inj hs h1 hk h2
  subst this
  exact h3
theorem cm_at {r : List RecT} (hs : SortedIds r) (id : Int) {k a : Nat} (hk : k < r.length) (ha : a < k) : decide (idAt r a ∈ cmF r id k) = decide (idAt r a ∈ comesF r id) := by
  rw [comes_at hs id (by omega : a < r.length), Bool.eq_iff_iff, decide_eq_true_eq, cmF_mem id k (by omega)]
  constructor
  · rintro ⟨i, h1, h2, h3⟩
    have := sorted_inj hs (by omega) (by omega) h2
    subst this
    exact h3
  · intro h
    exact ⟨a, ha, rfl, h⟩
theorem fillB_skip {f : Nat → Bool} {n k : Nat} (h : f k = false) : fillB f n (k + 1) = fillB f n k := by
  apply List.ext_getElem?
  intro i
  by_cases hi : i < n
  · rw [fillB_get _ _ _ _ hi, fillB_get _ _ _ _ hi]
    by_cases e : i = k
    · subst e; simp [h]
    · congr 2
      rw [Bool.eq_iff_iff]
      simp only [decide_eq_true_eq]
      omega
  · have h1 : (fillB f n k)[i]? = none := by rw [List.getElem?_eq_none_iff, fillB_len]; omega
    have h2 : (fillB f n (k + 1))[i]? = none := by rw [List.getElem?_eq_none_iff, fillB_len]; omega
    rw [h1, h2]
/-- the row of truths, its k-th one not yet told to the end -/
def partL (f : Nat → Bool) (n k : Nat) (q : Bool) : List Value := ((fillB f n k).map Value.bool).set (0 + (k : Int).toNat * szN 0) (.bool q)
theorem partL_set (f : Nat → Bool) (n k : Nat) (q q' : Bool) : (partL f n k q).set (0 + (k : Int).toNat * szN 0) (.bool q') = partL f n k q' := by rw [partL, List.set_set]; rfl
theorem partL_full (f : Nat → Bool) (n k : Nat) : partL f n k (f k) = (fillB f n (k + 1)).map Value.bool := by
  rw [partL, show 0 + (k : Int).toNat * szN 0 = k by simp [szN], ← List.map_set, fillB_set]
theorem partL_len (f : Nat → Bool) (n k : Nat) (q : Bool) : (partL f n k q).length = n := by rw [partL, List.length_set, List.length_map, fillB_len]
theorem partL_here (f : Nat → Bool) (n k : Nat) (q : Bool) (h : k < n) : (partL f n k q)[0 + (k : Int).toNat * szN 0]? = some (.bool q) := by
  rw [partL, List.getElem?_set_self (fill_lt h)]
theorem partL_at (f : Nat → Bool) (n k a : Nat) (q : Bool) (h : a < k) (hk : k < n) : (partL f n k q)[0 + (a : Int).toNat * szN 0]? = some (.bool (f a)) := by
  rw [partL, List.getElem?_set_ne (by simp [szN]; omega), fill_load (by omega), decide_eq_true h, Bool.true_and]
theorem any_drop {α : Type} (p : α → Bool) (xs : List α) (z : α) (k : Nat) (hk : k < xs.length) : (xs.drop k).any p = (p (xs.getD k z) || (xs.drop (k + 1)).any p) := by rw [drop_at xs z k hk, List.any_cons]
set_option maxHeartbeats 16000000 in
theorem comes_calls (A : Option Addr) (c : Nat) (r : List RecT) (id : Int) (w : World) (hr : Kd.C recK w A r.length r) (hok : recordedF r = true) :
    Calls Tryd.prog 40 #[.slice A r.length c, .int .i64 id] w fun e w' => ∃ b o, e = .returned (.slice (some ⟨b, 0, none⟩) r.length r.length) ∧ Below w.heap.size w w' ∧ w.heap.size ≤ b ∧ w'.heap[b]? = some o ∧ cel ((inB r (comesF r id)).map .bool) 4 o := by
  have hlen := recorded_len hok
  have hsrt := sorted_of hok
  refine x_calls (X := XNone) Tryd.func40 rfl rfl rfl ?_
  with_reducible repeat refine xc_seq ?_
  with_reducible refine xc_region ?_
  refine xo_asg rfl rfl rfl ?_
  with_reducible refine xo_nil ?_
  with_reducible repeat (first | refine xq_then ?_ | refine xq_blockN ?_ | refine xq_scopeN ?_)
  with_reducible repeat refine xc_seq ?_
  with_reducible refine xc_region ?_
  refine xo_mv rfl rfl rfl ?_
  refine xo_len T_ rfl rfl rfl rfl ?_
  refine xo_mks TR_ rfl rfl rfl rfl rfl rfl (by omega) (by omega) rfl (fun b5 => ?_)
  refine xo_asg rfl rfl rfl ?_
  with_reducible refine xo_nil ?_
  with_reducible repeat (first | refine xq_then ?_ | refine xq_blockN ?_ | refine xq_scopeN ?_)
  with_reducible repeat refine xc_seq ?_
  with_reducible refine xc_region ?_
  refine xo_asg rfl rfl rfl ?_
  with_reducible refine xo_nil ?_
  with_reducible repeat (first | refine xq_then ?_ | refine xq_blockN ?_ | refine xq_scopeN ?_)
  with_reducible repeat refine xc_seq ?_
  with_reducible refine xc_block ?_
  refine xc_loop (γ := Nat) (fun k => k ≤ r.length) (fun k => [(0, .slice A r.length c), (1, .int .i64 id), (5, .slice (some ⟨b5, 0, none⟩) r.length r.length), (6, .int .i64 (k : Int))])
    (fun k => [(b5, true, cel ((fillB (fun i => decide (idAt r i ∈ comesF r id)) r.length k).map .bool) 4)]) (fun k => r.length - k) 0 (Nat.zero_le _) ⟨rfl, rfl, rfl, rfl, trivial⟩ (by rw [fillB_zero, List.map_replicate]; exact List.Sublist.refl _) ?_
  intro k hk1
  with_reducible repeat refine xc_seq ?_
  with_reducible refine xc_region ?_
  refine xo_mv rfl rfl rfl ?_
  refine xo_mv rfl rfl rfl ?_
  refine xo_len T_ rfl rfl rfl rfl ?_
  refine xo_lss rfl rfl rfl rfl ?_
  with_reducible refine xo_nil ?_
  with_reducible repeat (first | refine xq_then ?_ | refine xq_blockN ?_ | refine xq_scopeN ?_)
  with_reducible repeat refine xc_seq ?_
  refine xc_cond rfl (fun h => ?_) (fun h => ?_)
  · have hlt : k < r.length := by have := of_decide_eq_true h; omega
    obtain ⟨ad, A2, c2, rfl, r1, hc2, hw2⟩ := rec_at hr k hlt
    have hat := comes_at hsrt id hlt
    rw [condF] at hat
    have hkn : ∀ way ∈ (r.getD k zRec).f2, ∀ n ∈ way, ∃ a, a < k ∧ atF r n = (a : Int) ∧ decide (idAt r a ∈ comesF r id) = decide (n ∈ cmF r id k) := fun way hway n hn => by
      obtain ⟨a, h1, h2, h3⟩ := recorded_before hok hlt hway hn
      obtain ⟨a', h4, h5, h6⟩ := atF_known (recorded_known hok (getD_mem r zRec k hlt) hway hn)
      have := sorted_inj hsrt h4 h2 (h6.trans h3.symm)
      subst this
      exact ⟨a', h1, h5, by rw [← cm_at hsrt id hlt h1, h3]⟩
    have hn2 := hw2.2.1
    generalize r.getD k zRec = x at *
    generalize cmF r id k = come at *
    with_reducible refine xc_skip ?_
    with_reducible repeat (first | refine xq_then ?_ | refine xq_blockN ?_ | refine xq_scopeN ?_)
    with_reducible repeat refine xc_seq ?_
    with_reducible refine xc_block ?_
    with_reducible repeat refine xc_seq ?_
    with_reducible refine xc_region ?_
    refine xo_mv rfl rfl rfl ?_
    refine xo_mv rfl rfl rfl ?_
    refine xo_ia T_ rfl rfl rfl rfl rfl ⟨by omega, by omega⟩ rfl ?_
    refine xo_faR T_ rfl rfl rfl rfl rfl ?_
    refine xo_loadR0 T_ rfl rfl rfl (by first | assumption | exact RO.fld (by assumption) rfl) rfl ?_
    refine xo_neq rfl rfl rfl rfl ?_
    with_reducible refine xo_nil ?_
    with_reducible repeat (first | refine xq_then ?_ | refine xq_blockN ?_ | refine xq_scopeN ?_)
    with_reducible repeat refine xc_seq ?_
    refine xc_cond rfl (fun h3 => ?_) (fun h3 => ?_)
    · have h3 : ¬ x.f1 = 3 := by simpa using h3
      rw [decide_eq_false h3, Bool.and_false] at hat
      with_reducible refine xc_exit ?_
      with_reducible repeat (first | refine xq_blockX ?_ | refine xq_thenE ?_ | refine xq_blockE rfl ?_ | refine xq_scopeE ?_)
      with_reducible repeat (first | refine xq_then ?_ | refine xq_blockN ?_ | refine xq_scopeN ?_)
      with_reducible repeat refine xc_seq ?_
      with_reducible refine xc_region ?_
      refine xo_mv rfl rfl rfl ?_
      refine xo_add rfl rfl rfl (by omega) rfl ?_
      refine xo_asg rfl rfl rfl ?_
      with_reducible refine xo_nil ?_
      with_reducible repeat (first | refine xq_then ?_ | refine xq_blockN ?_ | refine xq_scopeN ?_)
      exact xq_again _ _ _ _ _ (k + 1) (by omega) (by omega) ⟨rfl, rfl, rfl, rfl, trivial⟩ (by rw [fillB_skip (f := fun i => decide (idAt r i ∈ comesF r id)) hat]; exact (by repeat (first | exact List.Sublist.refl _ | apply List.Sublist.cons_cons | apply List.Sublist.cons | exact List.nil_sublist _)))
    have h3 : x.f1 = 3 := by simpa using h3
    rw [decide_eq_true h3, Bool.and_true] at hat
    with_reducible refine xc_skip ?_
    with_reducible repeat (first | refine xq_then ?_ | refine xq_blockN ?_ | refine xq_scopeN ?_)
    with_reducible repeat refine xc_seq ?_
    with_reducible refine xc_region ?_
    refine xo_mv rfl rfl rfl ?_
    refine xo_mv rfl rfl rfl ?_
    refine xo_mv rfl rfl rfl ?_
    refine xo_mv rfl rfl rfl ?_
    refine xo_ia T_ rfl rfl rfl rfl rfl ⟨by omega, by omega⟩ rfl ?_
    refine xo_faR T_ rfl rfl rfl rfl rfl ?_
    refine xo_loadR0 T_ rfl rfl rfl (by first | assumption | exact RO.fld (by assumption) rfl) rfl ?_
    refine xo_mv rfl rfl rfl ?_
    refine xo_eql rfl rfl rfl rfl ?_
    refine xo_ia T_ rfl rfl rfl rfl rfl ⟨by omega, by omega⟩ rfl ?_
    refine xo_storeI T_ (η' := [(b5, true, cel (partL (fun i => decide (idAt r i ∈ comesF r id)) r.length k (decide (x.f0 = id))) 4)]) rfl rfl rfl rfl (by repeat (first | exact List.Mem.head _ | apply List.Mem.tail | apply List.mem_append_right)) rfl rfl (fill_lt hlt) Upd.head rfl ?_
    with_reducible refine xo_nil ?_
    with_reducible repeat (first | refine xq_then ?_ | refine xq_blockN ?_ | refine xq_scopeN ?_)
    with_reducible repeat refine xc_seq ?_
    with_reducible refine xc_region ?_
    refine xo_asg rfl rfl rfl ?_
    with_reducible refine xo_nil ?_
    with_reducible repeat (first | refine xq_then ?_ | refine xq_blockN ?_ | refine xq_scopeN ?_)
    with_reducible repeat refine xc_seq ?_
    with_reducible refine xc_block ?_
    refine xc_loop (γ := Nat × Bool) (fun q => q.1 ≤ x.f2.length ∧ fromF id come x = (q.2 || (x.f2.drop q.1).any (wayP id come)))
      (fun q => [(0, .slice (some ad) r.length c), (1, .int .i64 id), (5, .slice (some ⟨b5, 0, none⟩) r.length r.length), (6, .int .i64 (k : Int)), (7, .int .i64 (q.1 : Int))])
      (fun q => [(b5, true, cel (partL (fun i => decide (idAt r i ∈ comesF r id)) r.length k q.2) 4)]) (fun q => x.f2.length - q.1) (0, decide (x.f0 = id))
      ⟨Nat.zero_le _, rfl⟩ ⟨rfl, rfl, rfl, rfl, rfl, trivial⟩ (by repeat (first | exact List.Sublist.refl _ | apply List.Sublist.cons_cons | apply List.Sublist.cons | exact List.nil_sublist _)) ?_
    rintro ⟨i, an⟩ ⟨hi1, hst⟩
    simp only at hi1 hst ⊢
    with_reducible repeat refine xc_seq ?_
    with_reducible refine xc_region ?_
    refine xo_mv rfl rfl rfl ?_
    refine xo_mv rfl rfl rfl ?_
    refine xo_mv rfl rfl rfl ?_
    refine xo_ia T_ rfl rfl rfl rfl rfl ⟨by omega, by omega⟩ rfl ?_
    refine xo_faR T_ rfl rfl rfl rfl rfl ?_
    refine xo_loadR0 T_ rfl rfl rfl (by first | assumption | exact RO.fld (by assumption) rfl) rfl ?_
    refine xo_len T_ rfl rfl rfl rfl ?_
    refine xo_lss rfl rfl rfl rfl ?_
    with_reducible refine xo_nil ?_
    with_reducible repeat (first | refine xq_then ?_ | refine xq_blockN ?_ | refine xq_scopeN ?_)
    with_reducible repeat refine xc_seq ?_
    refine xc_cond rfl (fun h => ?_) (fun h => ?_)
    · have hil : i < x.f2.length := by have := of_decide_eq_true h; omega
      obtain ⟨ad2, A4, c4, rfl, r3, hc3, hw3⟩ := way_at hw2 i hil
      rw [any_drop _ _ [] _ hil, ← Bool.or_assoc] at hst
      have hkw := hkn _ (getD_mem x.f2 [] i hil)
      generalize x.f2.getD i [] = way at *
      have hn3 := hw3.2.1
      with_reducible refine xc_skip ?_
      with_reducible repeat (first | refine xq_then ?_ | refine xq_blockN ?_ | refine xq_scopeN ?_)
      with_reducible repeat refine xc_seq ?_
      with_reducible refine xc_block ?_
      with_reducible repeat refine xc_seq ?_
      with_reducible refine xc_region ?_
      refine xo_asg rfl rfl rfl ?_
      with_reducible refine xo_nil ?_
      with_reducible repeat (first | refine xq_then ?_ | refine xq_blockN ?_ | refine xq_scopeN ?_)
      with_reducible repeat refine xc_seq ?_
      with_reducible refine xc_block ?_
      refine xc_loop (γ := Nat × Bool) (fun q => q.1 ≤ way.length ∧ (an || wayP id come way) = (q.2 || (way.drop q.1).any fun n => decide (n = id) || decide (n ∈ come)))
        (fun q => [(0, .slice (some ad) r.length c), (1, .int .i64 id), (5, .slice (some ⟨b5, 0, none⟩) r.length r.length), (6, .int .i64 (k : Int)), (7, .int .i64 (i : Int)), (8, .int .i64 (q.1 : Int))])
        (fun q => [(b5, true, cel (partL (fun i => decide (idAt r i ∈ comesF r id)) r.length k q.2) 4)]) (fun q => way.length - q.1) (0, an)
        ⟨Nat.zero_le _, rfl⟩ ⟨rfl, rfl, rfl, rfl, rfl, rfl, trivial⟩ (by repeat (first | exact List.Sublist.refl _ | apply List.Sublist.cons_cons | apply List.Sublist.cons | exact List.nil_sublist _)) ?_
      rintro ⟨j, al⟩ ⟨hj1, hal⟩
      simp only at hj1 hal ⊢
      with_reducible repeat refine xc_seq ?_
      with_reducible refine xc_region ?_
      refine xo_mv rfl rfl rfl ?_
      refine xo_mv rfl rfl rfl ?_
      refine xo_mv rfl rfl rfl ?_
      refine xo_ia T_ rfl rfl rfl rfl rfl ⟨by omega, by omega⟩ rfl ?_
      refine xo_faR T_ rfl rfl rfl rfl rfl ?_
      refine xo_loadR0 T_ rfl rfl rfl (by first | assumption | exact RO.fld (by assumption) rfl) rfl ?_
      refine xo_mv rfl rfl rfl ?_
      refine xo_ia T_ rfl rfl rfl rfl rfl ⟨by omega, by omega⟩ rfl ?_
      refine xo_loadR0 T_ rfl rfl rfl (by first | assumption | exact RO.fld (by assumption) rfl) rfl ?_
      refine xo_len T_ rfl rfl rfl rfl ?_
      refine xo_lss rfl rfl rfl rfl ?_
      with_reducible refine xo_nil ?_
      with_reducible repeat (first | refine xq_then ?_ | refine xq_blockN ?_ | refine xq_scopeN ?_)
      with_reducible repeat refine xc_seq ?_
      refine xc_cond rfl (fun h => ?_) (fun h => ?_)
      · have hjl : j < way.length := by have := of_decide_eq_true h; omega
        obtain ⟨ad4, rfl, r4⟩ := int_at hw3 j hjl
        rw [any_drop _ _ 0 _ hjl] at hal
        obtain ⟨a, ha1, ha2, ha3⟩ := hkw _ (getD_mem way 0 j hjl)
        generalize way.getD j 0 = n at *
        with_reducible refine xc_skip ?_
        with_reducible repeat (first | refine xq_then ?_ | refine xq_blockN ?_ | refine xq_scopeN ?_)
        with_reducible repeat refine xc_seq ?_
        with_reducible refine xc_block ?_
        with_reducible repeat refine xc_seq ?_
        with_reducible refine xc_region ?_
        refine xo_mv rfl rfl rfl ?_
        refine xo_mv rfl rfl rfl ?_
        refine xo_ia T_ rfl rfl rfl rfl rfl ⟨by omega, by omega⟩ rfl ?_
        refine xo_faR T_ rfl rfl rfl rfl rfl ?_
        refine xo_loadR0 T_ rfl rfl rfl (by first | assumption | exact RO.fld (by assumption) rfl) rfl ?_
        refine xo_mv rfl rfl rfl ?_
        refine xo_ia T_ rfl rfl rfl rfl rfl ⟨by omega, by omega⟩ rfl ?_
        refine xo_loadR0 T_ rfl rfl rfl (by first | assumption | exact RO.fld (by assumption) rfl) rfl ?_
        refine xo_mv rfl rfl rfl ?_
        refine xo_ia T_ rfl rfl rfl rfl rfl ⟨by omega, by omega⟩ rfl ?_
        refine xo_loadR0 T_ rfl rfl rfl (by first | assumption | exact RO.fld (by assumption) rfl) rfl ?_
        refine xo_asg rfl rfl rfl ?_
        with_reducible refine xo_nil ?_
        with_reducible repeat (first | refine xq_then ?_ | refine xq_blockN ?_ | refine xq_scopeN ?_)
        cases hb : al
        · subst hb
          cases hb2 : decide (n = id)
          · rw [hb2] at hal
            with_reducible repeat refine xc_seq ?_
            with_reducible refine xc_region ?_
            refine xo_mv rfl rfl rfl ?_
            refine xo_mv rfl rfl rfl ?_
            refine xo_mv rfl rfl rfl ?_
            refine xo_mv rfl rfl rfl ?_
            refine xo_ia T_ rfl rfl rfl rfl rfl ⟨by omega, by omega⟩ rfl ?_
            refine xo_loadI T_ rfl rfl rfl (by repeat (first | exact List.Mem.head _ | apply List.Mem.tail | apply List.mem_append_right)) (partL_here _ _ _ _ hlt) rfl ?_
            refine xo_mv rfl rfl rfl ?_
            first
              | refine xo_not rfl rfl ?_
              | (refine xo_mv rfl rfl rfl ?_)
            first
              | refine xo_not rfl rfl ?_
              | (refine xo_mv rfl rfl rfl ?_)
            first
              | refine xo_not rfl rfl ?_
              | (refine xo_eql rfl rfl rfl rfl ?_)
            refine xo_as (i := 78) rfl (congrArg Value.bool hb2) ?_
            first | refine xo_pickT rfl rfl rfl rfl ?_ | refine xo_pickF rfl rfl rfl rfl ?_
            refine xo_mv rfl rfl rfl ?_
            first
              | refine xo_not rfl rfl ?_
              | (refine xo_mv rfl rfl rfl ?_)
            first
              | refine xo_not rfl rfl ?_
              | (refine xo_mv rfl rfl rfl ?_)
            first
              | refine xo_not rfl rfl ?_
              | (refine xo_mv rfl rfl rfl ?_)
            first
              | refine xo_not rfl rfl ?_
              | (refine xo_callB (v := .int .i64 (a : Int)) (fs := []) (cs := []) rfl rfl rfl at_enters rfl (fun w1 hw1 => by rw [← ha2]; exact at_calls _ _ _ _ w1 (Kd.C_below hr hw1.kx.below)) ?_)
            first
              | refine xo_not rfl rfl ?_
              | (refine xo_ia T_ rfl rfl rfl rfl rfl ⟨by omega, by omega⟩ rfl ?_)
            first
              | refine xo_not rfl rfl ?_
              | (refine xo_loadI T_ rfl rfl rfl (by repeat (first | exact List.Mem.head _ | apply List.Mem.tail | apply List.mem_append_right)) (by rw [partL_at _ _ _ _ _ ha1 hlt, ha3]) rfl ?_)
            first | refine xo_pickT rfl rfl rfl rfl ?_ | refine xo_pickF rfl rfl rfl rfl ?_
            refine xo_ia T_ rfl rfl rfl rfl rfl ⟨by omega, by omega⟩ rfl ?_
            refine xo_storeI T_ (η' := [(b5, true, cel (partL (fun i => decide (idAt r i ∈ comesF r id)) r.length k (decide (n ∈ come))) 4)]) rfl rfl rfl rfl (by repeat (first | exact List.Mem.head _ | apply List.Mem.tail | apply List.mem_append_right)) rfl rfl (by rw [partL_len]; simpa [szN] using hlt) (by rw [partL_set]; exact Upd.head) rfl ?_
            with_reducible refine xo_nil ?_
            with_reducible repeat (first | refine xq_then ?_ | refine xq_blockN ?_ | refine xq_scopeN ?_)
            with_reducible repeat refine xc_seq ?_
            with_reducible refine xc_region ?_
            refine xo_mv rfl rfl rfl ?_
            refine xo_add rfl rfl rfl (by omega) rfl ?_
            refine xo_asg rfl rfl rfl ?_
            with_reducible refine xo_nil ?_
            with_reducible repeat (first | refine xq_then ?_ | refine xq_blockN ?_ | refine xq_scopeN ?_)
            exact xq_again _ _ _ _ _ (j + 1, decide (n ∈ come)) ⟨by omega, by rw [hal]; simp⟩ (by first | omega | (simp only; omega)) ⟨rfl, rfl, rfl, rfl, rfl, rfl, trivial⟩ (by repeat (first | exact List.Sublist.refl _ | apply List.Sublist.cons_cons | apply List.Sublist.cons | exact List.nil_sublist _))
          · rw [hb2] at hal
            with_reducible repeat refine xc_seq ?_
            with_reducible refine xc_region ?_
            refine xo_mv rfl rfl rfl ?_
            refine xo_mv rfl rfl rfl ?_
            refine xo_mv rfl rfl rfl ?_
            refine xo_mv rfl rfl rfl ?_
            refine xo_ia T_ rfl rfl rfl rfl rfl ⟨by omega, by omega⟩ rfl ?_
            refine xo_loadI T_ rfl rfl rfl (by repeat (first | exact List.Mem.head _ | apply List.Mem.tail | apply List.mem_append_right)) (partL_here _ _ _ _ hlt) rfl ?_
            refine xo_mv rfl rfl rfl ?_
            first
              | refine xo_not rfl rfl ?_
              | (refine xo_mv rfl rfl rfl ?_)
            first
              | refine xo_not rfl rfl ?_
              | (refine xo_mv rfl rfl rfl ?_)
            first
              | refine xo_not rfl rfl ?_
              | (refine xo_eql rfl rfl rfl rfl ?_)
            refine xo_as (i := 78) rfl (congrArg Value.bool hb2) ?_
            first | refine xo_pickT rfl rfl rfl rfl ?_ | refine xo_pickF rfl rfl rfl rfl ?_
            refine xo_mv rfl rfl rfl ?_
            first
              | refine xo_not rfl rfl ?_
              | (refine xo_mv rfl rfl rfl ?_)
            first
              | refine xo_not rfl rfl ?_
              | (refine xo_mv rfl rfl rfl ?_)
            first
              | refine xo_not rfl rfl ?_
              | (refine xo_mv rfl rfl rfl ?_)
            first
              | refine xo_not rfl rfl ?_
              | (skip)
            first
              | refine xo_not rfl rfl ?_
              | (refine xo_ia T_ rfl rfl rfl rfl rfl ⟨by omega, by omega⟩ rfl ?_)
            first
              | refine xo_not rfl rfl ?_
              | (skip)
            first | refine xo_pickT rfl rfl rfl rfl ?_ | refine xo_pickF rfl rfl rfl rfl ?_
            refine xo_ia T_ rfl rfl rfl rfl rfl ⟨by omega, by omega⟩ rfl ?_
            refine xo_storeI T_ (η' := [(b5, true, cel (partL (fun i => decide (idAt r i ∈ comesF r id)) r.length k true) 4)]) rfl rfl rfl rfl (by repeat (first | exact List.Mem.head _ | apply List.Mem.tail | apply List.mem_append_right)) rfl rfl (by rw [partL_len]; simpa [szN] using hlt) (by rw [partL_set]; exact Upd.head) rfl ?_
            with_reducible refine xo_nil ?_
            with_reducible repeat (first | refine xq_then ?_ | refine xq_blockN ?_ | refine xq_scopeN ?_)
            with_reducible repeat refine xc_seq ?_
            with_reducible refine xc_region ?_
            refine xo_mv rfl rfl rfl ?_
            refine xo_add rfl rfl rfl (by omega) rfl ?_
            refine xo_asg rfl rfl rfl ?_
            with_reducible refine xo_nil ?_
            with_reducible repeat (first | refine xq_then ?_ | refine xq_blockN ?_ | refine xq_scopeN ?_)
            exact xq_again _ _ _ _ _ (j + 1, true) ⟨by omega, by rw [hal]; simp⟩ (by first | omega | (simp only; omega)) ⟨rfl, rfl, rfl, rfl, rfl, rfl, trivial⟩ (by repeat (first | exact List.Sublist.refl _ | apply List.Sublist.cons_cons | apply List.Sublist.cons | exact List.nil_sublist _))
        · subst hb
          with_reducible repeat refine xc_seq ?_
          with_reducible refine xc_region ?_
          refine xo_mv rfl rfl rfl ?_
          refine xo_mv rfl rfl rfl ?_
          refine xo_mv rfl rfl rfl ?_
          refine xo_mv rfl rfl rfl ?_
          refine xo_ia T_ rfl rfl rfl rfl rfl ⟨by omega, by omega⟩ rfl ?_
          refine xo_loadI T_ rfl rfl rfl (by repeat (first | exact List.Mem.head _ | apply List.Mem.tail | apply List.mem_append_right)) (partL_here _ _ _ _ hlt) rfl ?_
          refine xo_mv rfl rfl rfl ?_
          first
            | refine xo_not rfl rfl ?_
            | (refine xo_mv rfl rfl rfl ?_)
          first
            | refine xo_not rfl rfl ?_
            | (refine xo_mv rfl rfl rfl ?_)
          first
            | refine xo_not rfl rfl ?_
            | (refine xo_eql rfl rfl rfl rfl ?_)
          first | refine xo_pickT rfl rfl rfl rfl ?_ | refine xo_pickF rfl rfl rfl rfl ?_
          refine xo_mv rfl rfl rfl ?_
          first
            | refine xo_not rfl rfl ?_
            | (refine xo_mv rfl rfl rfl ?_)
          first
            | refine xo_not rfl rfl ?_
            | (refine xo_mv rfl rfl rfl ?_)
          first
            | refine xo_not rfl rfl ?_
            | (refine xo_mv rfl rfl rfl ?_)
          first
            | refine xo_not rfl rfl ?_
            | (skip)
          first
            | refine xo_not rfl rfl ?_
            | (refine xo_ia T_ rfl rfl rfl rfl rfl ⟨by omega, by omega⟩ rfl ?_)
          first
            | refine xo_not rfl rfl ?_
            | (skip)
          first | refine xo_pickT rfl rfl rfl rfl ?_ | refine xo_pickF rfl rfl rfl rfl ?_
          refine xo_ia T_ rfl rfl rfl rfl rfl ⟨by omega, by omega⟩ rfl ?_
          refine xo_storeI T_ (η' := [(b5, true, cel (partL (fun i => decide (idAt r i ∈ comesF r id)) r.length k true) 4)]) rfl rfl rfl rfl (by repeat (first | exact List.Mem.head _ | apply List.Mem.tail | apply List.mem_append_right)) rfl rfl (by rw [partL_len]; simpa [szN] using hlt) (by rw [partL_set]; exact Upd.head) rfl ?_
          with_reducible refine xo_nil ?_
          with_reducible repeat (first | refine xq_then ?_ | refine xq_blockN ?_ | refine xq_scopeN ?_)
          with_reducible repeat refine xc_seq ?_
          with_reducible refine xc_region ?_
          refine xo_mv rfl rfl rfl ?_
          refine xo_add rfl rfl rfl (by omega) rfl ?_
          refine xo_asg rfl rfl rfl ?_
          with_reducible refine xo_nil ?_
          with_reducible repeat (first | refine xq_then ?_ | refine xq_blockN ?_ | refine xq_scopeN ?_)
          exact xq_again _ _ _ _ _ (j + 1, true) ⟨by omega, by rw [hal]; simp⟩ (by first | omega | (simp only; omega)) ⟨rfl, rfl, rfl, rfl, rfl, rfl, trivial⟩ (by repeat (first | exact List.Sublist.refl _ | apply List.Sublist.cons_cons | apply List.Sublist.cons | exact List.nil_sublist _))
      · have hge : ¬ j < way.length := by have := of_decide_eq_false h; omega
        rw [List.drop_of_length_le (by omega), List.any_nil, Bool.or_false] at hal
        with_reducible refine xc_exit ?_
        with_reducible repeat (first | refine xq_blockX ?_ | refine xq_thenE ?_ | refine xq_blockE rfl ?_ | refine xq_scopeE ?_)
        with_reducible repeat (first | refine xq_then ?_ | refine xq_blockN ?_ | refine xq_scopeN ?_)
        with_reducible repeat refine xc_seq ?_
        with_reducible refine xc_region ?_
        refine xo_mv rfl rfl rfl ?_
        refine xo_add rfl rfl rfl (by omega) rfl ?_
        refine xo_asg rfl rfl rfl ?_
        with_reducible refine xo_nil ?_
        with_reducible repeat (first | refine xq_then ?_ | refine xq_blockN ?_ | refine xq_scopeN ?_)
        exact xq_again _ _ _ _ _ (i + 1, al) ⟨by omega, by rw [hst, hal]⟩ (by first | omega | (simp only; omega)) ⟨rfl, rfl, rfl, rfl, rfl, trivial⟩ (by repeat (first | exact List.Sublist.refl _ | apply List.Sublist.cons_cons | apply List.Sublist.cons | exact List.nil_sublist _))
    · have hge : ¬ i < x.f2.length := by have := of_decide_eq_false h; omega
      rw [List.drop_of_length_le (by omega), List.any_nil, Bool.or_false] at hst
      rw [hst] at hat
      with_reducible refine xc_exit ?_
      with_reducible repeat (first | refine xq_blockX ?_ | refine xq_thenE ?_ | refine xq_blockE rfl ?_ | refine xq_scopeE ?_)
      with_reducible repeat (first | refine xq_then ?_ | refine xq_blockN ?_ | refine xq_scopeN ?_)
      with_reducible repeat refine xc_seq ?_
      with_reducible refine xc_region ?_
      refine xo_mv rfl rfl rfl ?_
      refine xo_add rfl rfl rfl (by omega) rfl ?_
      refine xo_asg rfl rfl rfl ?_
      with_reducible refine xo_nil ?_
      with_reducible repeat (first | refine xq_then ?_ | refine xq_blockN ?_ | refine xq_scopeN ?_)
      exact xq_again _ _ _ _ _ (k + 1) (by omega) (by omega) ⟨rfl, rfl, rfl, rfl, trivial⟩ (by rw [← partL_full]; simp only [hat]; exact (by repeat (first | exact List.Sublist.refl _ | apply List.Sublist.cons_cons | apply List.Sublist.cons | exact List.nil_sublist _)))
  · have hge : ¬ k < r.length := by have := of_decide_eq_false h; omega
    have hkk : k = r.length := by omega
    subst hkk
    with_reducible refine xc_exit ?_
    with_reducible repeat (first | refine xq_blockX ?_ | refine xq_thenE ?_ | refine xq_blockE rfl ?_ | refine xq_scopeE ?_)
    with_reducible repeat (first | refine xq_then ?_ | refine xq_blockN ?_ | refine xq_scopeN ?_)
    with_reducible repeat refine xc_seq ?_
    with_reducible refine xc_region ?_
    refine xo_mv rfl rfl rfl ?_
    refine xo_asg rfl rfl rfl ?_
    with_reducible refine xo_nil ?_
    with_reducible repeat (first | refine xq_then ?_ | refine xq_blockN ?_ | refine xq_scopeN ?_)
    with_reducible repeat refine xc_seq ?_
    with_reducible refine xc_ret ?_
    with_reducible repeat (first | refine xq_thenR ?_ | refine xq_blockR ?_ | refine xq_scopeR ?_)
    refine xq_ret1 rfl rfl fun w' hw => ?_
    obtain ⟨o, h1, h2⟩ := hw.bl _ (List.Mem.head _)
    refine ⟨b5, o, rfl, hw.kx.below, hw.own (List.Mem.head _), h1, ?_⟩
    rw [inB, ← fill_all (fun i => decide (i ∈ comesF r id))]
    exact h2
theorem comes_enters : ∀ args w, (callFunc 40 args).run Tryd.prog w = .ok (.enter 40 args) w := enters_of Tryd.func40 (by kernel_rfl) rfl
end Go.Proofs.YtcmepdamemnbkaaDoor
namespace Go.Proofs.YtcmepdamemnbkaaDoor
open Go.Shelf Go.RowKit
set_option maxRecDepth 100000
def ren189 : Ren := ⟨fun n => bif Nat.beq n 125 then 85 else bif Nat.beq n 128 then 96 else bif Nat.beq n 129 then 97 else bif Nat.beq n 189 then 72 else bif Nat.beq n 215 then 98 else bif Nat.beq n 216 then 93 else bif Nat.beq n 257 then 84 else bif Nat.beq n 294 then 87 else bif Nat.beq n 295 then 88 else bif Nat.beq n 296 then 89 else bif Nat.beq n 297 then 90 else bif Nat.beq n 298 then 91 else bif Nat.beq n 299 then 92 else bif Nat.beq n 300 then 94 else bif Nat.beq n 301 then 95 else bif Nat.beq n 328 then 99 else bif Nat.beq n 329 then 100 else bif Nat.beq n 330 then 101 else bif Nat.beq n 331 then 102 else bif Nat.beq n 332 then 103 else bif Nat.beq n 343 then 104 else n, fun n => bif Nat.beq n 0 then 0 else bif Nat.beq n 3 then 3 else bif Nat.beq n 4 then 4 else bif Nat.beq n 5 then 5 else bif Nat.beq n 9 then 9 else bif Nat.beq n 28 then 33 else bif Nat.beq n 46 then 126 else bif Nat.beq n 51 then 59 else bif Nat.beq n 53 then 138 else bif Nat.beq n 131 then 65 else bif Nat.beq n 182 then 129 else bif Nat.beq n 183 then 130 else bif Nat.beq n 218 then 139 else bif Nat.beq n 222 then 143 else bif Nat.beq n 228 then 145 else bif Nat.beq n 229 then 146 else n, fun n => n⟩
theorem lays189 : Lays.n189 Tryd.prog ren189 where
  mixed := T_.mixed
  f125 := by kernel_rfl
  f128 := by kernel_rfl
  f129 := by kernel_rfl
  f189 := by kernel_rfl
  f215 := by kernel_rfl
  f216 := by kernel_rfl
  f257 := by kernel_rfl
  f294 := by kernel_rfl
  f295 := by kernel_rfl
  f296 := by kernel_rfl
  f297 := by kernel_rfl
  f298 := by kernel_rfl
  f299 := by kernel_rfl
  f300 := by kernel_rfl
  f301 := by kernel_rfl
  f328 := by kernel_rfl
  f329 := by kernel_rfl
  f330 := by kernel_rfl
  f331 := by kernel_rfl
  f332 := by kernel_rfl
  f343 := by kernel_rfl
  t0 := by kernel_rfl
  a0 := fun w => by kernel_rfl
  z0 := fun w => by kernel_rfl
  v0 := fun w => by kernel_rfl
  t3 := by kernel_rfl
  a3 := fun w => by kernel_rfl
  z3 := fun w => by kernel_rfl
  v3 := fun w => by kernel_rfl
  t4 := by kernel_rfl
  a4 := fun w => by kernel_rfl
  z4 := fun w => by kernel_rfl
  v4 := fun w => by kernel_rfl
  t5 := by kernel_rfl
  a5 := fun w => by kernel_rfl
  z5 := fun w => by kernel_rfl
  v5 := fun w => by kernel_rfl
  t9 := by kernel_rfl
  a9 := fun w => by kernel_rfl
  z9 := fun w => by kernel_rfl
  v9 := fun w => by kernel_rfl
  t28 := by kernel_rfl
  a28 := fun w => by kernel_rfl
  z28 := fun w => by kernel_rfl
  v28 := fun w => by kernel_rfl
  t46 := by kernel_rfl
  a46 := fun w => by kernel_rfl
  z46 := fun w => by kernel_rfl
  v46 := fun w => by kernel_rfl
  t51 := by kernel_rfl
  a51 := fun w => by kernel_rfl
  z51 := fun w => by kernel_rfl
  v51 := fun w => by kernel_rfl
  t53 := by kernel_rfl
  a53 := fun w => by kernel_rfl
  z53 := fun w => by kernel_rfl
  v53 := fun w => by kernel_rfl
  t131 := by kernel_rfl
  a131 := fun w => by kernel_rfl
  z131 := fun w => by kernel_rfl
  v131 := fun w => by kernel_rfl
  t182 := by kernel_rfl
  a182 := fun w => by kernel_rfl
  z182 := fun w => by kernel_rfl
  v182 := fun w => by kernel_rfl
  t183 := by kernel_rfl
  a183 := fun w => by kernel_rfl
  z183 := fun w => by kernel_rfl
  v183 := fun w => by kernel_rfl
  t218 := by kernel_rfl
  a218 := fun w => by kernel_rfl
  z218 := fun w => by kernel_rfl
  v218 := fun w => by kernel_rfl
  t222 := by kernel_rfl
  a222 := fun w => by kernel_rfl
  z222 := fun w => by kernel_rfl
  v222 := fun w => by kernel_rfl
  t228 := by kernel_rfl
  a228 := fun w => by kernel_rfl
  z228 := fun w => by kernel_rfl
  v228 := fun w => by kernel_rfl
  t229 := by kernel_rfl
  a229 := fun w => by kernel_rfl
  z229 := fun w => by kernel_rfl
  v229 := fun w => by kernel_rfl
end Go.Proofs.YtcmepdamemnbkaaDoor
namespace Go.Proofs.YtcmepdamemnbkaaDoor
open Go.RowKit
set_option linter.unusedVariables false
set_option linter.unusedSimpArgs false
set_option maxHeartbeats 4000000 in
theorem appendSeqS_calls (g : Nat) (cs : List Value) (eg : ∀ args w, (callFunc g args).run Tryd.prog w = .ok (.enter g args) w) (need : Nat → Prop) (S : List Int → Prop) (M : Nat) (w : World) (hit : IterS Tryd.prog g cs w need S M) (hneed : ∀ k, need k → k < w.heap.size) (hlen : M ≤ 1000000) :
    Calls Tryd.prog 74 #[.slice none 0 0, .func (.func g) #[] cs.toArray] w fun e w' => ∃ (xs : List Int) (r : RowR), S xs ∧ e = .returned (valR r xs.length) ∧ RowAt 3 w.heap.size w' r xs ∧ Below w.heap.size w w' := by
  refine x_callsM 3 Tryd.func74 rfl rfl rfl (WOK.start XNone w) ?_
  with_reducible repeat refine xc_seq ?_
  with_reducible refine xc_region ?_
  refine xo_box rfl rfl rfl rfl (fun b2 => ?_)
  refine xo_asg rfl rfl rfl ?_
  with_reducible refine xo_nil ?_
  with_reducible repeat (first | refine xq_then ?_ | refine xq_blockN ?_ | refine xq_scopeN ?_)
  with_reducible repeat refine xc_seq ?_
  with_reducible refine xc_region ?_
  refine xo_mv rfl rfl rfl ?_
  with_reducible refine xo_nil ?_
  with_reducible repeat (first | refine xq_then ?_ | refine xq_blockN ?_ | refine xq_scopeN ?_)
  with_reducible repeat refine xc_seq ?_
  with_reducible refine xc_block ?_
  refine xc_know (φ := w.heap.size ≤ b2) (fun w1 hw1 => hw1.own (by repeat (first | exact List.Mem.head _ | apply List.Mem.tail | apply List.mem_append_right))) fun hb2 => ?_
  refine xc_rangeS (by omega) rfl eg rfl (fun k => k < w.heap.size) (fun w1 hw1 k hk => Nat.lt_of_lt_of_le hk hw1.kx.size) (fun w1 hw1 => hit w1 hw1.kx.size (fun k hk => hw1.kx.below.block k (hneed k hk)) _ hneed _)
    (γ := RowR) (fun ys r => (r = none → ys = []) ∧ ∀ p, r = some p → w.heap.size ≤ p.1) (fun ys r => hpR 3 1 r ys.length (ys.map (.int .i64)) ++ [(b2, true, cel [valR r ys.length] 33)]) none ⟨fun _ => rfl, fun p h => by cases h⟩ (List.Sublist.refl _) ?_ ?_ (fun x => [(2, .pointer (some ⟨b2, 0, none⟩)), (5, .int .i64 x)]) ?_ ?_ ?_
  · intro ys r hC e he
    left
    intro o ho
    rcases List.mem_append.1 he with he | he
    · cases r with
      | none => cases he
      | some p =>
        simp only [hpR, List.mem_singleton] at he
        subst he
        obtain ⟨cur, rfl, _⟩ := ho
        rfl
    · simp only [List.mem_singleton] at he
      subst he
      rw [show o = _ from ho]
      rfl
  · rintro ys r ⟨_, hC⟩ e he _
    rcases List.mem_append.1 he with he | he
    · cases r with
      | none => cases he
      | some p =>
        simp only [hpR, List.mem_singleton] at he
        subst he
        exact Nat.not_lt.2 (hC p rfl)
    · simp only [List.mem_singleton] at he
      subst he
      exact Nat.not_lt.2 hb2
  · intro l x W
    with_reducible repeat refine xc_seq ?_
    with_reducible refine xc_region ?_
    refine xo_asg rfl rfl rfl ?_
    with_reducible refine xo_nil ?_
    with_reducible repeat (first | refine xq_then ?_ | refine xq_blockN ?_ | refine xq_scopeN ?_)
    exact fun a w1 ha hw1 => ⟨ha.sub ⟨rfl, rfl, trivial⟩, hw1.kx⟩
  · rintro l ys x r W ⟨hC1, hC2⟩ hlt hW
    with_reducible repeat refine xc_seq ?_
    with_reducible refine xc_block ?_
    with_reducible repeat refine xc_seq ?_
    with_reducible refine xc_region ?_
    refine xo_load0 T_ rfl rfl rfl (by repeat (first | exact List.Mem.head _ | apply List.Mem.tail | apply List.mem_append_right)) rfl rfl ?_
    refine xo_mv rfl rfl rfl ?_
    refine xo_bs1 T_ rfl rfl rfl rfl rfl rfl rfl rfl (fun b10 => ?_)
    refine xo_app TR_ rfl rfl rfl rfl rfl rfl rfl rfl (by simp) rfl rfl (fun h => by rw [hC1 h]; rfl) (by omega) rfl rfl (fun r' hr' => ?_)
    rcases r' with _ | ⟨g', cap'⟩
    · exact absurd rfl hr'
    refine xo_store T_ rfl rfl rfl rfl (by repeat (first | exact List.Mem.head _ | apply List.Mem.tail | apply List.mem_append_right)) rfl rfl rfl rfl (by repeat (first | exact Upd.head | apply Upd.tail | apply Upd.app)) rfl ?_
    with_reducible refine xo_nil ?_
    with_reducible repeat (first | refine xq_then ?_ | refine xq_blockN ?_ | refine xq_scopeN ?_)
    intro a w1 ha hw1
    refine ⟨some (g', cap'), ⟨(fun h => by cases h), fun p hp => ?_⟩, ?_⟩
    · cases hp
      rcases hw1.ow (g', true, _) (by repeat (first | exact List.Mem.head _ | apply List.Mem.tail | apply List.mem_append_right)) rfl with h1 | ⟨e, he, _, rfl⟩
      · exact Nat.le_trans hW.kx.size h1
      · rcases List.mem_append.1 he with he | he
        · cases r with
          | none => cases he
          | some p =>
            simp only [hpR, List.mem_singleton] at he
            subst he
            exact hC2 p rfl
        · simp only [List.mem_singleton] at he
          subst he
          exact hb2
    · have e1 : (ys ++ [x]).length = ys.length + 1 := by simp
      have e2 : (ys ++ [x]).map (Value.int .i64) = ys.map (Value.int .i64) ++ [Value.int .i64 x] := by simp
      show WOK W _ (hpR 3 1 (some (g', cap')) (ys ++ [x]).length ((ys ++ [x]).map (.int .i64)) ++ [(b2, true, cel [valR (some (g', cap')) (ys ++ [x]).length] 33)]) w1
      rw [e1, e2]
      exact hw1
  · rintro D xs r hS ⟨hC1, hC2⟩
    with_reducible repeat (first | refine xq_then ?_ | refine xq_blockN ?_ | refine xq_scopeN ?_)
    with_reducible repeat refine xc_seq ?_
    with_reducible refine xc_region ?_
    refine xo_load0 T_ rfl rfl rfl (by repeat (first | exact List.Mem.head _ | apply List.Mem.tail | apply List.mem_append_right)) rfl rfl ?_
    refine xo_asg rfl rfl rfl ?_
    with_reducible refine xo_nil ?_
    with_reducible repeat (first | refine xq_then ?_ | refine xq_blockN ?_ | refine xq_scopeN ?_)
    with_reducible repeat refine xc_seq ?_
    with_reducible refine xc_ret ?_
    with_reducible repeat (first | refine xq_thenR ?_ | refine xq_blockR ?_ | refine xq_scopeR ?_)
    refine xq_retM1 rfl rfl fun w1 hw1 => ⟨xs, r, hS, rfl, ⟨hC1, fun p hp => ⟨hC2 p hp, ?_⟩⟩, hw1.kx.below⟩
    subst hp
    exact hw1.bl (p.1, true, orow 3 1 xs.length p.2 (xs.map (.int .i64))) (List.Mem.head _)
theorem collectS_calls (g : Nat) (cs : List Value) (eg : ∀ args w, (callFunc g args).run Tryd.prog w = .ok (.enter g args) w) (need : Nat → Prop) (S : List Int → Prop) (M : Nat) (w : World) (hit : IterS Tryd.prog g cs w need S M) (hneed : ∀ k, need k → k < w.heap.size) (hlen : M ≤ 1000000) :
    Calls Tryd.prog 56 #[.func (.func g) #[] cs.toArray] w fun e w' => ∃ (xs : List Int) (r : RowR), S xs ∧ e = .returned (valR r xs.length) ∧ RowAt 3 w.heap.size w' r xs ∧ Below w.heap.size w w' := by
  have eg2 := enters_of Tryd.func74 (by kernel_rfl) rfl
  refine x_calls (X := XNone) Tryd.func56 rfl rfl rfl ?_
  with_reducible repeat refine xc_seq ?_
  with_reducible refine xc_region ?_
  refine xo_asg rfl rfl rfl ?_
  with_reducible refine xo_nil ?_
  with_reducible repeat (first | refine xq_then ?_ | refine xq_blockN ?_ | refine xq_scopeN ?_)
  with_reducible repeat refine xc_seq ?_
  with_reducible refine xc_region ?_
  refine xo_mv rfl rfl rfl ?_
  refine xo_call (fs := []) (cs := []) rfl rfl rfl eg2 rfl (fun w1 hw1 => (appendSeqS_calls g cs eg need S M w1 (fun w2 h1 h2 => hit w2 (Nat.le_trans hw1.kx.size h1) (fun k hk => (h2 k hk).trans (hw1.kx.below.block k (hneed k hk)))) (fun k hk => Nat.lt_of_lt_of_le (hneed k hk) hw1.kx.size) hlen).mono ?_)
  rintro e w2 ⟨xs, r, hS, rfl, hrow, hb⟩
  refine ⟨_, _, rfl, hw1.row hb hrow, ?_⟩
  refine xo_asg rfl rfl rfl ?_
  with_reducible refine xo_nil ?_
  with_reducible repeat (first | refine xq_then ?_ | refine xq_blockN ?_ | refine xq_scopeN ?_)
  with_reducible repeat refine xc_seq ?_
  with_reducible refine xc_ret ?_
  with_reducible repeat (first | refine xq_thenR ?_ | refine xq_blockR ?_ | refine xq_scopeR ?_)
  exact xq_ret1 rfl rfl fun w3 hw3 => ⟨xs, r, hS, rfl, RowAt.of hw3 hrow.1, hw3.kx.below⟩
end Go.Proofs.YtcmepdamemnbkaaDoor
namespace Go.Proofs.YtcmepdamemnbkaaDoor
open Go.RowKit
set_option linter.unusedVariables false
set_option linter.unusedSimpArgs false
theorem keys_uniq {es : Array MapEntry} {c : Nat} {l : List (Int × Value)} (hE : Ents es c l) {e e' : MapEntry} (he : e ∈ es.toList) (he' : e' ∈ es.toList) (h : e.key = e'.key) : e.born = e'.born := by
  have h1 : (es.toList.map (·.key)) = l.map (fun p => Value.int .i64 p.1) := by
    have := congrArg (List.map Prod.fst) hE.is
    simpa [List.map_map, Function.comp_def, kvE, kvI] using this
  have h2 : (es.toList.map (·.key)).Nodup := by
    rw [h1, show (fun p : Int × Value => Value.int .i64 p.1) = (fun n => Value.int .i64 n) ∘ Prod.fst from rfl, ← List.map_map]
    refine List.Pairwise.map _ ?_ hE.keys
    intro a b hab q
    injection q with _ q
    exact hab q
  obtain ⟨i, hi, rfl⟩ := List.getElem_of_mem he
  obtain ⟨j, hj, rfl⟩ := List.getElem_of_mem he'
  by_cases e : i = j
  · subst e; rfl
  · exfalso
    rw [List.nodup_iff_pairwise_ne, List.pairwise_iff_getElem] at h2
    by_cases hij : i < j
    · exact h2 i j (by simpa using hi) (by simpa using hj) hij (by simpa using h)
    · exact h2 j i (by simpa using hj) (by simpa using hi) (by omega) (by simpa using h.symm)
theorem keys_nodup {es : Array MapEntry} {c : Nat} {s : List Int} (hE : Ents es c (setV s)) : s.Nodup := by
  have h := hE.keys
  simpa [setV, List.map_map, Function.comp_def] using h
/-- what has been yielded: the keys of the entries that were seen -/
def Seen (es : Array MapEntry) (seen : Array Nat) (ys : List Int) : Prop := ys.Nodup ∧ ∀ n, n ∈ ys ↔ ∃ e ∈ es.toList, seen.contains e.born = true ∧ e.key = .int .i64 n
theorem Seen.step {es : Array MapEntry} {c : Nat} {s : List Int} (hE : Ents es c (setV s)) {seen : Array Nat} {ys : List Int} (h : Seen es seen ys) {e : MapEntry} (he : e ∈ es.toList) (hns : seen.contains e.born = false) {k : Int} (hk : e.key = .int .i64 k) : Seen es (seen.push e.born) (ys ++ [k]) := by
  obtain ⟨h1, h2⟩ := h
  refine ⟨List.nodup_append.2 ⟨h1, by simp, fun a ha b hb q => ?_⟩, fun n => ?_⟩
  · simp at hb
    subst hb
    subst q
    obtain ⟨e', he', h3, h4⟩ := (h2 a).1 ha
    rw [keys_uniq hE he' he (h4.trans hk.symm)] at h3
    rw [h3] at hns
    cases hns
  · rw [List.mem_append, List.mem_singleton, h2]
    constructor
    · rintro (⟨e', he', h3, h4⟩ | rfl)
      · exact ⟨e', he', by simp at h3 ⊢; exact .inl h3, h4⟩
      · exact ⟨e, he, by simp, hk⟩
    · rintro ⟨e', he', h3, h4⟩
      simp at h3
      rcases h3 with h3 | h3
      · exact .inl ⟨e', he', by simpa using h3, h4⟩
      · right
        obtain ⟨i, hi, rfl⟩ := List.getElem_of_mem he
        obtain ⟨j, hj, rfl⟩ := List.getElem_of_mem he'
        have hij : i = j := by
          have ho := hE.once
          by_cases q : i = j
          · exact q
          · exfalso
            rw [List.nodup_iff_pairwise_ne, List.pairwise_iff_getElem] at ho
            by_cases hl : i < j
            · exact ho i j (by simpa using hi) (by simpa using hj) hl (by simpa using h3.symm)
            · exact ho j i (by simpa using hj) (by simpa using hi) (by omega) (by simpa using h3)
        subst hij
        rw [hk] at h4
        injection h4 with _ h4
        exact h4.symm
theorem Seen.sub {es : Array MapEntry} {c : Nat} {s : List Int} (hE : Ents es c (setV s)) {seen : Array Nat} {ys : List Int} (h : Seen es seen ys) : ∀ n ∈ ys, n ∈ s := fun n hn => by
  obtain ⟨e, he, _, h4⟩ := (h.2 n).1 hn
  obtain ⟨k, hk, h5, _⟩ := hE.setV he
  rw [h5] at h4
  injection h4 with _ h4
  rwa [← h4]
theorem Seen.len {es : Array MapEntry} {c : Nat} {s : List Int} (hE : Ents es c (setV s)) {seen : Array Nat} {ys : List Int} (h : Seen es seen ys) : ys.length ≤ s.length := by
  have hp : (s.filter fun n => decide (n ∈ ys)).Perm ys := (List.perm_ext_iff_of_nodup ((keys_nodup hE).filter _) h.1).2 fun n => by
    simp only [List.mem_filter, decide_eq_true_eq]
    exact ⟨fun q => q.2, fun q => ⟨h.sub hE n q, q⟩⟩
  rw [← hp.length_eq]
  exact List.length_filter_le _ _
theorem Seen.all {es : Array MapEntry} {c : Nat} {s : List Int} (hE : Ents es c (setV s)) {seen : Array Nat} {ys : List Int} (h : Seen es seen ys) (hall : ∀ e ∈ es.toList, seen.contains e.born = true) : ys.Perm s :=
  (List.perm_ext_iff_of_nodup h.1 (keys_nodup hE)).2 fun n => ⟨h.sub hE n, fun hn => by
    have : (Value.int .i64 n, Value.bool true) ∈ es.toList.map kvE := by
      rw [hE.is, Go.Proofs.YtcmepdamemnbkaaDoor.setV, List.map_map]
      exact List.mem_map.2 ⟨n, hn, rfl⟩
    obtain ⟨e, he, q⟩ := List.mem_map.1 this
    exact (h.2 n).2 ⟨e, he, hall e he, congrArg Prod.fst q⟩⟩
end Go.Proofs.YtcmepdamemnbkaaDoor
namespace Go.Proofs.YtcmepdamemnbkaaDoor
open Go.RowKit
set_option linter.unusedVariables false
set_option linter.unusedSimpArgs false
def sortF (xs : List Int) : List Int := xs.mergeSort fun x y => decide (x ≤ y)
theorem sortF_len (xs : List Int) : (sortF xs).length = xs.length := by simp [sortF]
theorem sort_enters : ∀ args w, (callFunc 72 args).run Tryd.prog w = .ok (.enter 72 args) w := enters_of Tryd.func72 (by kernel_rfl) rfl
theorem sort_calls (b cap : Nat) (xs : List Int) (w : World) (o : Obj) (h1 : w.heap[b]? = some o) (h2 : orow 3 1 xs.length cap (xs.map (.int .i64)) o) (hl : xs.length ≤ 1000000) :
    Calls Tryd.prog 72 #[.slice (some ⟨b, 0, none⟩) xs.length cap] w fun e w' => e = .returned (.tuple #[]) ∧ Kx (fun k => k = b) w w' ∧ ∃ o', w'.heap[b]? = some o' ∧ orow 3 1 xs.length cap ((sortF xs).map (.int .i64)) o' := by
  obtain ⟨cur, rfl, h5, h6, h7, h8⟩ := h2
  rw [Nat.mul_one] at h7 h8
  have hlt : b < w.heap.size := (Array.getElem?_eq_some_iff.1 h1).1
  have hc := Any.slices_Sort_int lays189 b 0 cap xs w (holds_of_blockI h1 h8) hlt (by omega)
  refine Calls.mono (show Calls Tryd.prog 72 _ _ _ from hc) ?_
  rintro e w' ⟨rfl, n, os, rfl⟩
  have hg := grownBy_sortedI (w := w) (g := b) (n := n) (os := os) (xs.mergeSort fun x y => decide (x ≤ y)).toArray
  refine ⟨rfl, ⟨hg.os, hg.tape, hg.output, hg.size, fun k hk hne => hg.block k hk (fun q => hne (Option.some.inj q))⟩, _, heap_sortedI _ h1, _, rfl, h5, h6, ?_, ?_⟩
  · rw [Nat.mul_one, ← h7]
    simp [Sort.putCells]
  · rw [Nat.mul_one]
    have := take_putCellsI cur (sortF xs) (by rw [sortF_len]; omega)
    rw [sortF_len] at this
    exact this
theorem sortF_perm {l l' : List Int} (h : l.Perm l') : sortF l = sortF l' := by
  have tr : ∀ a b c : Int, decide (a ≤ b) = true → decide (b ≤ c) = true → decide (a ≤ c) = true := fun a b c h1 h2 => by simp at *; omega
  have tot : ∀ a b : Int, (decide (a ≤ b) || decide (b ≤ a)) = true := fun a b => by simp; omega
  refine List.Perm.eq_of_pairwise (le := fun a b => decide (a ≤ b) = true) (fun a b _ _ h1 h2 => ?_) (List.pairwise_mergeSort tr tot l) (List.pairwise_mergeSort tr tot l') (((List.mergeSort_perm l _).trans h).trans (List.mergeSort_perm l' _).symm)
  simp only [decide_eq_true_eq] at h1 h2
  omega
end Go.Proofs.YtcmepdamemnbkaaDoor
namespace Go.Proofs.YtcmepdamemnbkaaDoor
open Go.Shelf Go.RowKit
set_option maxRecDepth 100000
def ren125 : Ren := ⟨fun n => bif Nat.beq n 125 then 85 else bif Nat.beq n 128 then 96 else bif Nat.beq n 129 then 97 else n, fun n => bif Nat.beq n 3 then 3 else bif Nat.beq n 4 then 4 else bif Nat.beq n 5 then 5 else bif Nat.beq n 9 then 9 else bif Nat.beq n 46 then 126 else bif Nat.beq n 51 then 59 else bif Nat.beq n 53 then 138 else n, fun n => n⟩
theorem lays125 : Lays.n125 Tryd.prog ren125 where
  mixed := T_.mixed
  f125 := by kernel_rfl
  f128 := by kernel_rfl
  f129 := by kernel_rfl
  t3 := by kernel_rfl
  a3 := fun w => by kernel_rfl
  z3 := fun w => by kernel_rfl
  v3 := fun w => by kernel_rfl
  t4 := by kernel_rfl
  a4 := fun w => by kernel_rfl
  z4 := fun w => by kernel_rfl
  v4 := fun w => by kernel_rfl
  t5 := by kernel_rfl
  a5 := fun w => by kernel_rfl
  z5 := fun w => by kernel_rfl
  v5 := fun w => by kernel_rfl
  t9 := by kernel_rfl
  a9 := fun w => by kernel_rfl
  z9 := fun w => by kernel_rfl
  v9 := fun w => by kernel_rfl
  t46 := by kernel_rfl
  a46 := fun w => by kernel_rfl
  z46 := fun w => by kernel_rfl
  v46 := fun w => by kernel_rfl
  t51 := by kernel_rfl
  a51 := fun w => by kernel_rfl
  z51 := fun w => by kernel_rfl
  v51 := fun w => by kernel_rfl
  t53 := by kernel_rfl
  a53 := fun w => by kernel_rfl
  z53 := fun w => by kernel_rfl
  v53 := fun w => by kernel_rfl
end Go.Proofs.YtcmepdamemnbkaaDoor
namespace Go.Proofs.YtcmepdamemnbkaaDoor
open Go.RowKit
set_option linter.unusedVariables false
set_option linter.unusedSimpArgs false
theorem insertion_nil (w : World) : Calls Tryd.prog 87 #[.slice none 0 0, .int .i64 0, .int .i64 0] w fun e w' => e = .returned (.tuple #[]) ∧ Below w.heap.size w w' := by
  refine x_calls (X := XNone) Tryd.func87 rfl rfl rfl ?_
  with_reducible repeat refine xc_seq ?_
  with_reducible refine xc_region ?_
  refine xo_mv rfl rfl rfl ?_
  refine xo_add rfl rfl rfl (by omega) rfl ?_
  refine xo_asg rfl rfl rfl ?_
  with_reducible refine xo_nil ?_
  with_reducible repeat (first | refine xq_then ?_ | refine xq_blockN ?_ | refine xq_scopeN ?_)
  with_reducible repeat refine xc_seq ?_
  with_reducible refine xc_block ?_
  refine xc_loop (γ := Unit) (fun _ => True) (fun _ => [(2, .int .i64 0), (6, .int .i64 1)]) (fun _ => []) (fun _ => 0) () trivial ⟨rfl, rfl, trivial⟩ (List.Sublist.refl _) ?_
  rintro _ _
  with_reducible repeat refine xc_seq ?_
  with_reducible refine xc_region ?_
  refine xo_mv rfl rfl rfl ?_
  refine xo_mv rfl rfl rfl ?_
  refine xo_lss rfl rfl rfl rfl ?_
  with_reducible refine xo_nil ?_
  with_reducible repeat (first | refine xq_then ?_ | refine xq_blockN ?_ | refine xq_scopeN ?_)
  with_reducible repeat refine xc_seq ?_
  refine xc_condF rfl ?_
  with_reducible refine xc_exit ?_
  with_reducible repeat (first | refine xq_blockX ?_ | refine xq_thenE ?_ | refine xq_blockE rfl ?_ | refine xq_scopeE ?_)
  exact xq_end0 rfl fun w2 hw2 => ⟨rfl, hw2.kx.below⟩
theorem pdq_nil (x : Int) (w : World) : Calls Tryd.prog 84 #[.slice none 0 0, .int .i64 0, .int .i64 0, .int .i64 x] w fun e w' => e = .returned (.tuple #[]) ∧ Below w.heap.size w w' := by
  have eg := enters_of Tryd.func87 (by kernel_rfl) rfl
  refine x_calls (X := XNone) Tryd.func84 rfl rfl rfl ?_
  with_reducible repeat refine xc_seq ?_
  with_reducible refine xc_region ?_
  refine xo_asg rfl rfl rfl ?_
  with_reducible refine xo_nil ?_
  with_reducible repeat (first | refine xq_then ?_ | refine xq_blockN ?_ | refine xq_scopeN ?_)
  with_reducible repeat refine xc_seq ?_
  with_reducible refine xc_region ?_
  refine xo_asg rfl rfl rfl ?_
  with_reducible refine xo_nil ?_
  with_reducible repeat (first | refine xq_then ?_ | refine xq_blockN ?_ | refine xq_scopeN ?_)
  with_reducible repeat refine xc_seq ?_
  with_reducible refine xc_block ?_
  refine xc_loop (γ := Unit) (fun _ => True) (fun _ => [(0, .slice none 0 0), (1, .int .i64 0), (2, .int .i64 0)]) (fun _ => []) (fun _ => 0) () trivial ⟨rfl, rfl, rfl, trivial⟩ (List.Sublist.refl _) ?_
  rintro _ _
  with_reducible repeat refine xc_seq ?_
  with_reducible refine xc_block ?_
  with_reducible repeat refine xc_seq ?_
  with_reducible refine xc_region ?_
  refine xo_mv rfl rfl rfl ?_
  refine xo_mv rfl rfl rfl ?_
  refine xo_sub rfl rfl rfl (by omega) rfl ?_
  refine xo_asg rfl rfl rfl ?_
  with_reducible refine xo_nil ?_
  with_reducible repeat (first | refine xq_then ?_ | refine xq_blockN ?_ | refine xq_scopeN ?_)
  with_reducible repeat refine xc_seq ?_
  with_reducible refine xc_region ?_
  refine xo_mv rfl rfl rfl ?_
  refine xo_leq rfl rfl rfl rfl ?_
  with_reducible refine xo_nil ?_
  with_reducible repeat (first | refine xq_then ?_ | refine xq_blockN ?_ | refine xq_scopeN ?_)
  with_reducible repeat refine xc_seq ?_
  refine xc_condT rfl ?_
  with_reducible repeat refine xc_seq ?_
  with_reducible refine xc_region ?_
  refine xo_mv rfl rfl rfl ?_
  refine xo_mv rfl rfl rfl ?_
  refine xo_mv rfl rfl rfl ?_
  refine xo_callB (fs := []) (cs := []) rfl rfl rfl eg rfl (fun w1 hw1 => insertion_nil w1) ?_
  with_reducible refine xo_nil ?_
  with_reducible repeat (first | refine xq_then ?_ | refine xq_blockN ?_ | refine xq_scopeN ?_)
  with_reducible repeat refine xc_seq ?_
  with_reducible refine xc_ret ?_
  with_reducible repeat (first | refine xq_thenR ?_ | refine xq_blockR ?_ | refine xq_scopeR ?_)
  exact xq_ret0 rfl fun w2 hw2 => ⟨rfl, hw2.kx.below⟩
theorem sort_nil (w : World) : Calls Tryd.prog 72 #[.slice none 0 0] w fun e w' => e = .returned (.tuple #[]) ∧ Below w.heap.size w w' := by
  have eg := enters_of Tryd.func84 (by kernel_rfl) rfl
  have eg2 := enters_of Tryd.func85 (by kernel_rfl) rfl
  refine x_calls (X := XNone) Tryd.func72 rfl rfl rfl ?_
  with_reducible repeat refine xc_seq ?_
  with_reducible refine xc_region ?_
  refine xo_mv rfl rfl rfl ?_
  refine xo_len T_ rfl rfl rfl rfl ?_
  refine xo_asg rfl rfl rfl ?_
  with_reducible refine xo_nil ?_
  with_reducible repeat (first | refine xq_then ?_ | refine xq_blockN ?_ | refine xq_scopeN ?_)
  with_reducible repeat refine xc_seq ?_
  with_reducible refine xc_region ?_
  refine xo_mv rfl rfl rfl ?_
  refine xo_mv rfl rfl rfl ?_
  refine xo_mv rfl rfl rfl ?_
  refine xo_conv T_ rfl rfl rfl rfl (by decide) rfl ?_
  refine xo_callB (fs := []) (cs := []) rfl rfl rfl eg2 rfl (fun w1 hw1 => (Any.bits_Len lays125 0 w1 (by omega) (by omega)).mono (fun e w' h => ⟨h.1, by rw [h.2]; exact Below.refl _ _⟩)) ?_
  refine xo_callB (fs := []) (cs := []) rfl rfl rfl eg rfl (fun w1 hw1 => pdq_nil _ w1) ?_
  with_reducible refine xo_nil ?_
  with_reducible repeat (first | refine xq_then ?_ | refine xq_blockN ?_ | refine xq_scopeN ?_)
  exact xq_end0 rfl fun w2 hw2 => ⟨rfl, hw2.kx.below⟩
theorem collectS_enters : ∀ args w, (callFunc 56 args).run Tryd.prog w = .ok (.enter 56 args) w := enters_of Tryd.func56 (by kernel_rfl) rfl
theorem sorted_enters : ∀ args w, (callFunc 52 args).run Tryd.prog w = .ok (.enter 52 args) w := enters_of Tryd.func52 (by kernel_rfl) rfl
theorem sorted_calls (g : Nat) (cs : List Value) (eg : ∀ args w, (callFunc g args).run Tryd.prog w = .ok (.enter g args) w) (need : Nat → Prop) (s : List Int) (M : Nat) (w : World) (hit : IterS Tryd.prog g cs w need (fun ys => ys.Perm s) M) (hneed : ∀ k, need k → k < w.heap.size) (hlen : M ≤ 1000000) (hs : s.length ≤ 1000000) :
    Calls Tryd.prog 52 #[.func (.func g) #[] cs.toArray] w fun e w' => ∃ r : RowR, e = .returned (valR r (sortF s).length) ∧ RowAt 3 w.heap.size w' r (sortF s) ∧ Below w.heap.size w w' := by
  refine x_calls (X := XNone) Tryd.func52 rfl rfl rfl ?_
  with_reducible repeat refine xc_seq ?_
  with_reducible refine xc_region ?_
  refine xo_asg rfl rfl rfl ?_
  with_reducible refine xo_nil ?_
  with_reducible repeat (first | refine xq_then ?_ | refine xq_blockN ?_ | refine xq_scopeN ?_)
  with_reducible repeat refine xc_seq ?_
  with_reducible refine xc_region ?_
  refine xo_mv rfl rfl rfl ?_
  refine xo_call (fs := []) (cs := []) rfl rfl rfl collectS_enters rfl (fun w1 hw1 => (collectS_calls g cs eg need _ M w1 (fun w2 h1 h2 => hit w2 (Nat.le_trans hw1.kx.size h1) (fun k hk => (h2 k hk).trans (hw1.kx.below.block k (hneed k hk)))) (fun k hk => Nat.lt_of_lt_of_le (hneed k hk) hw1.kx.size) hlen).mono ?_)
  rintro e w2 ⟨xs, r, hS, rfl, hrow, hb⟩
  have h0 := hrow.1
  refine ⟨_, _, rfl, hw1.row hb hrow, ?_⟩
  clear hrow hb hw1
  have hxl : xs.length = s.length := hS.length_eq
  have hsx : sortF s = sortF xs := (sortF_perm hS).symm
  refine xo_asg rfl rfl rfl ?_
  with_reducible refine xo_nil ?_
  with_reducible repeat (first | refine xq_then ?_ | refine xq_blockN ?_ | refine xq_scopeN ?_)
  rcases r with _ | ⟨b, cap⟩
  · obtain rfl := h0 rfl
    with_reducible repeat refine xc_seq ?_
    with_reducible refine xc_region ?_
    refine xo_mv rfl rfl rfl ?_
    refine xo_callB (fs := []) (cs := []) rfl rfl rfl sort_enters rfl (fun w1 hw1 => sort_nil w1) ?_
    with_reducible refine xo_nil ?_
    with_reducible repeat (first | refine xq_then ?_ | refine xq_blockN ?_ | refine xq_scopeN ?_)
    with_reducible repeat refine xc_seq ?_
    with_reducible refine xc_region ?_
    refine xo_mv rfl rfl rfl ?_
    refine xo_asg rfl rfl rfl ?_
    with_reducible refine xo_nil ?_
    with_reducible repeat (first | refine xq_then ?_ | refine xq_blockN ?_ | refine xq_scopeN ?_)
    with_reducible repeat refine xc_seq ?_
    with_reducible refine xc_ret ?_
    with_reducible repeat (first | refine xq_thenR ?_ | refine xq_blockR ?_ | refine xq_scopeR ?_)
    refine xq_ret1 rfl rfl fun w' hw => ⟨none, rfl, ?_, hw.kx.below⟩
    rw [hsx]
    exact ⟨fun _ => by simp [sortF], fun p hp => by cases hp⟩
  · with_reducible repeat refine xc_seq ?_
    with_reducible refine xc_region ?_
    refine xo_mv rfl rfl rfl ?_
    refine xo_call (fs := []) (cs := []) rfl rfl rfl sort_enters rfl (fun w1 hw1 => ?_)
    obtain ⟨o1, ho1, ho2⟩ := hw1.bl (b, true, orow 3 1 xs.length cap (xs.map (.int .i64))) (List.Mem.head _)
    refine (sort_calls b cap xs w1 o1 ho1 ho2 (by omega)).mono ?_
    rintro e w3 ⟨rfl, hk3, o3, ho3, ho4⟩
    refine ⟨_, _, rfl, hw1.updK (φ' := orow 3 1 xs.length cap ((sortF xs).map (.int .i64))) Upd.head hk3 ho3 ho4, ?_⟩
    clear ho3 ho4 hk3 ho1 ho2 hw1
    with_reducible refine xo_nil ?_
    with_reducible repeat (first | refine xq_then ?_ | refine xq_blockN ?_ | refine xq_scopeN ?_)
    with_reducible repeat refine xc_seq ?_
    with_reducible refine xc_region ?_
    refine xo_mv rfl rfl rfl ?_
    refine xo_asg rfl rfl rfl ?_
    with_reducible refine xo_nil ?_
    with_reducible repeat (first | refine xq_then ?_ | refine xq_blockN ?_ | refine xq_scopeN ?_)
    with_reducible repeat refine xc_seq ?_
    with_reducible refine xc_ret ?_
    with_reducible repeat (first | refine xq_thenR ?_ | refine xq_blockR ?_ | refine xq_scopeR ?_)
    refine xq_ret1 rfl rfl fun w' hw => ⟨some (b, cap), by rw [hsx, sortF_len], ?_, hw.kx.below⟩
    rw [hsx]
    refine RowAt.of (η := []) ?_ (fun h => by cases h)
    rw [sortF_len]
    exact hw.sub (List.Sublist.cons_cons _ (List.nil_sublist _))
end Go.Proofs.YtcmepdamemnbkaaDoor
namespace Go.Proofs.YtcmepdamemnbkaaDoor
open Go.RowKit
set_option linter.unusedVariables false
set_option linter.unusedSimpArgs false
theorem entsKey {es : Array MapEntry} {c : Nat} {l : List (Int × Value)} {s : List Int} (hE : Ents es c l) (hs : s = l.map (·.1)) {e : MapEntry} (he : e ∈ es.toList) : ∃ k, k ∈ s ∧ e.key = .int .i64 k := by
  have h1 : kvE e ∈ es.toList.map kvE := List.mem_map_of_mem he
  rw [hE.is] at h1
  obtain ⟨p, hp, h2⟩ := List.mem_map.1 h1
  exact ⟨p.1, by rw [hs]; exact List.mem_map.2 ⟨p, hp, rfl⟩, (congrArg Prod.fst h2).symm⟩
theorem Seen.stepM {es : Array MapEntry} {c : Nat} {l : List (Int × Value)} {seen : Array Nat} {ys : List Int} (h : Seen es seen ys) (hE : Ents es c l) {e : MapEntry} (he : e ∈ es.toList) (hns : seen.contains e.born = false) {k : Int} (hk : e.key = .int .i64 k) : Seen es (seen.push e.born) (ys ++ [k]) := by
  obtain ⟨h1, h2⟩ := h
  refine ⟨List.nodup_append.2 ⟨h1, by simp, fun a ha b hb q => ?_⟩, fun n => ?_⟩
  · simp at hb
    subst hb
    subst q
    obtain ⟨e', he', h3, h4⟩ := (h2 a).1 ha
    rw [keys_uniq hE he' he (h4.trans hk.symm)] at h3
    rw [h3] at hns
    cases hns
  · rw [List.mem_append, List.mem_singleton, h2]
    constructor
    · rintro (⟨e', he', h3, h4⟩ | rfl)
      · exact ⟨e', he', by simp at h3 ⊢; exact .inl h3, h4⟩
      · exact ⟨e, he, by simp, hk⟩
    · rintro ⟨e', he', h3, h4⟩
      simp at h3
      rcases h3 with h3 | h3
      · exact .inl ⟨e', he', by simpa using h3, h4⟩
      · right
        have hee := once_eq hE he' he h3
        subst hee
        rw [hk] at h4
        injection h4 with _ h4
        exact h4.symm
theorem seenSub {es : Array MapEntry} {c : Nat} {l : List (Int × Value)} {s : List Int} (hE : Ents es c l) (hs : s = l.map (·.1)) {seen : Array Nat} {ys : List Int} (h : Seen es seen ys) : ∀ n ∈ ys, n ∈ s := fun n hn => by
  obtain ⟨e, he, _, h4⟩ := (h.2 n).1 hn
  obtain ⟨k, hk, h5⟩ := entsKey hE hs he
  rw [h5] at h4
  injection h4 with _ h4
  rwa [← h4]
theorem seenNodup {es : Array MapEntry} {c : Nat} {l : List (Int × Value)} {s : List Int} (hE : Ents es c l) (hs : s = l.map (·.1)) : s.Nodup := by rw [hs]; exact hE.keys
theorem seenLen {es : Array MapEntry} {c : Nat} {l : List (Int × Value)} {s : List Int} (hE : Ents es c l) (hs : s = l.map (·.1)) {seen : Array Nat} {ys : List Int} (h : Seen es seen ys) : ys.length ≤ s.length := by
  have hp : (s.filter fun n => decide (n ∈ ys)).Perm ys := (List.perm_ext_iff_of_nodup ((seenNodup hE hs).filter _) h.1).2 fun n => by
    simp only [List.mem_filter, decide_eq_true_eq]
    exact ⟨fun q => q.2, fun q => ⟨seenSub hE hs h n q, q⟩⟩
  rw [← hp.length_eq]
  exact List.length_filter_le _ _
theorem seenAll {es : Array MapEntry} {c : Nat} {l : List (Int × Value)} {s : List Int} (hE : Ents es c l) (hs : s = l.map (·.1)) {seen : Array Nat} {ys : List Int} (h : Seen es seen ys) (hall : ∀ e ∈ es.toList, seen.contains e.born = true) : ys.Perm s :=
  (List.perm_ext_iff_of_nodup h.1 (seenNodup hE hs)).2 fun n => ⟨seenSub hE hs h n, fun hn => by
    rw [hs] at hn
    obtain ⟨p, hp, rfl⟩ := List.mem_map.1 hn
    have : kvI p ∈ es.toList.map kvE := by rw [hE.is]; exact List.mem_map.2 ⟨p, hp, rfl⟩
    obtain ⟨e, he, q⟩ := List.mem_map.1 this
    exact (h.2 p.1).2 ⟨e, he, hall e he, congrArg Prod.fst q⟩⟩
theorem keysIterM_enters : ∀ args w, (callFunc 73 args).run Tryd.prog w = .ok (.enter 73 args) w := enters_of Tryd.func73 (by kernel_rfl) rfl
set_option maxHeartbeats 4000000 in
theorem iter_keysM (s : List Int) (l0 : List (Int × Value)) (hs : s = l0.map (·.1)) (M0 B : Nat) (wB : World) (hB : wB.heap[B]? = some (.cells #[.map (some M0)] 80 (0, 0))) (hM : IMap wB M0 (l0)) :
    IterS Tryd.prog 73 [.pointer (some ⟨B, 0, none⟩)] wB (fun k => k = B ∨ k = M0) (fun ys => ys.Perm s) s.length := by
  intro w hszB hneed K hK m l J Jx W hW hJ hJx hY h0
  have ltB : B < wB.heap.size := (Array.getElem?_eq_some_iff.1 hB).1
  have ltM := hM.lt
  have gB : W.heap[B]? = _ := (hW.block B (by omega)).trans ((hneed B (.inl rfl)).trans hB)
  have gM : IMap W M0 (l0) := hM.at_ ((hW.block M0 (by omega)).trans (hneed M0 (.inr rfl)))
  have nBM : B ≠ M0 := fun e => by obtain ⟨es, cl, h, _⟩ := gM; rw [← e, gB] at h; cases h
  have hszW := hW.size
  have hw0 : WOK W XNone [(B, false, cel [.map (some M0)] 80), (M0, false, hmap (l0))] W := by
    refine ⟨Kx.refl _ W, ?_, by simp [nBM], by simp⟩
    intro e he
    simp only [List.mem_cons, List.not_mem_nil, or_false] at he
    rcases he with rfl | rfl
    · exact ⟨_, gB, rfl⟩
    · exact hmap_of gM
  refine x_iter Tryd.func73 rfl rfl rfl hw0 ?_
  with_reducible repeat refine xc_seq ?_
  with_reducible refine xc_region ?_
  refine xo_load0 T_ rfl rfl rfl (by repeat (first | exact List.Mem.head _ | apply List.Mem.tail | apply List.mem_append_right)) rfl rfl ?_
  refine xo_rangeM T_ rfl rfl rfl (by repeat (first | exact List.Mem.head _ | apply List.Mem.tail | apply List.mem_append_right)) (fun es c => Rep.tail Rep.head) rfl (fun r5 es c hE => ?_)
  with_reducible refine xo_nil ?_
  with_reducible repeat (first | refine xq_then ?_ | refine xq_blockN ?_ | refine xq_scopeN ?_)
  with_reducible repeat refine xc_seq ?_
  with_reducible refine xc_block ?_
  refine xc_loopJ (γ := Array Nat × List Int) (fun q => Seen es q.1 q.2) (fun q => [(0, .func (.yield l) #[] #[]), (5, .pointer (some ⟨r5, 0, none⟩))])
    (fun q => [(r5, true, hiter M0 c q.1), (B, false, cel [.map (some M0)] 80), (M0, false, hmapE es c)]) (fun q w => J q.2 w ∧ W.heap.size ≤ r5 ∧ W.heap.size ≤ w.heap.size) (fun q => s.length - q.2.length) (#[], []) ⟨List.nodup_nil, fun n => by simp⟩ ⟨rfl, rfl, trivial⟩
    (fun w1 hw1 => ⟨hw1.bok (by repeat (first | exact List.Sublist.refl _ | apply List.Sublist.cons_cons | apply List.Sublist.cons | exact List.nil_sublist _)), hJ _ _ _ none h0 (hw1.kx.grown (fun k q => q.elim)) (fun r e => by cases e), hw1.own (b := r5) (by repeat (first | exact List.Mem.head _ | apply List.Mem.tail | apply List.mem_append_right)), hw1.kx.size⟩) ?_
  rintro ⟨seen, ys⟩ hseen wr hbok ⟨hJr, hr5, hszr⟩
  simp only at hseen hJr ⊢
  have hXW : ∀ seen b, XW [(r5, true, hiter M0 c seen), (B, false, cel [.map (some M0)] 80), (M0, false, hmapE es c)] b → r5 = b := by
    rintro seen b ⟨e, he, hwr, rfl⟩
    simp only [List.mem_cons, List.not_mem_nil, or_false] at he
    rcases he with rfl | rfl | rfl
    · rfl
    · cases hwr
    · cases hwr
  have hIr : wr.heap[r5]? = some (.mapIter (some M0) c seen c) := by
    obtain ⟨o, h5, h6⟩ := hbok.bl (r5, true, hiter M0 c seen) (by repeat (first | exact List.Mem.head _ | apply List.Mem.tail | apply List.mem_append_right))
    rw [h5]
    exact congrArg some h6
  have hwalk : ∀ (wx : World) (sn : Array Nat), wx.heap[r5]? = some (.mapIter (some M0) c sn c) → ∀ q, some r5 = some q → W.heap.size ≤ q ∧ ∃ o : Obj, wx.heap[q]? = some o ∧ o.isWalk = true := fun wx sn h q e => by
    cases e
    exact ⟨hr5, _, h, rfl⟩
  have hJn : ∀ (X : Nat → Prop) (w1 : World), (∀ b, X b → r5 = b) → Kx X wr w1 → J ys w1 := fun X w1 hX kx => hJ ys wr w1 (some r5) hJr (kx.grown (fun k q => congrArg some (hX k q))) (hwalk wr seen hIr)
  with_reducible repeat refine xc_seq ?_
  with_reducible refine xc_region ?_
  refine xo_next rfl rfl (by repeat (first | exact List.Mem.head _ | apply List.Mem.tail | apply List.mem_append_right)) (by repeat (first | exact List.Mem.head _ | apply List.Mem.tail | apply List.mem_append_right)) hE (fun seen' => Upd.head) rfl (fun hall => ?_) (fun e he hns => ?_)
  · refine xo_ext rfl rfl rfl rfl ?_
    with_reducible refine xo_nil ?_
    with_reducible repeat (first | refine xq_then ?_ | refine xq_blockN ?_ | refine xq_scopeN ?_)
    with_reducible repeat refine xc_seq ?_
    refine xc_condF rfl ?_
    with_reducible refine xc_exit ?_
    with_reducible repeat (first | refine xq_blockX ?_ | refine xq_thenE ?_ | refine xq_blockE rfl ?_ | refine xq_scopeE ?_)
    exact xq_end0 rfl fun w2 hw2 => ⟨⟨_, rfl⟩, .inl ⟨ys, seenAll hE hs hseen hall, hJn _ _ (hXW seen) hw2.kx⟩⟩
  · obtain ⟨k, hk, hk1⟩ := entsKey hE hs he
    have hst := hseen.stepM hE he hns hk1
    have hlen : ys.length < s.length := by
      have := seenLen hE hs hst
      simp at this
      omega
    rw [hk1]
    refine xo_ext rfl rfl rfl rfl ?_
    with_reducible refine xo_nil ?_
    with_reducible repeat (first | refine xq_then ?_ | refine xq_blockN ?_ | refine xq_scopeN ?_)
    with_reducible repeat refine xc_seq ?_
    refine xc_condT rfl ?_
    with_reducible refine xc_skip ?_
    with_reducible repeat (first | refine xq_then ?_ | refine xq_blockN ?_ | refine xq_scopeN ?_)
    with_reducible repeat refine xc_seq ?_
    with_reducible refine xc_block ?_
    with_reducible repeat refine xc_seq ?_
    with_reducible refine xc_region ?_
    refine xo_entry rfl rfl (by repeat (first | exact List.Mem.head _ | apply List.Mem.tail | apply List.mem_append_right)) (by repeat (first | exact List.Mem.head _ | apply List.Mem.tail | apply List.mem_append_right)) hE he rfl ?_
    rw [hk1]
    refine xo_ext rfl rfl rfl rfl ?_
    refine xo_asg rfl rfl rfl ?_
    with_reducible refine xo_nil ?_
    with_reducible repeat (first | refine xq_then ?_ | refine xq_blockN ?_ | refine xq_scopeN ?_)
    with_reducible repeat refine xc_seq ?_
    with_reducible refine xc_region ?_
    refine xo_mv rfl rfl rfl ?_
    refine xo_mv rfl rfl rfl ?_
    refine xo_yield rfl rfl rfl rfl (fun w1 hw1 => ?_)
    obtain ⟨fn, tmps, assign, body, hy1, hy2⟩ := hY ys k w1 (hJn _ _ (hXW _) hw1.kx) hlen
    refine ⟨fn, tmps, assign, body, hy1, hy2.mono ?_⟩
    have hI1 : w1.heap[r5]? = some (.mapIter (some M0) c (seen.push e.born) c) := by
      obtain ⟨o, h5, h6⟩ := hw1.bl (r5, true, hiter M0 c (seen.push e.born)) (by repeat (first | exact List.Mem.head _ | apply List.Mem.tail | apply List.mem_append_right))
      rw [h5]
      exact congrArg some h6
    have hB1 := hw1.obj (b := B) (wr := false) (cs := [.map (some M0)]) (t := 80) (by repeat (first | exact List.Mem.head _ | apply List.Mem.tail | apply List.mem_append_right))
    have hM1 : w1.heap[M0]? = some (.map es c) := by
      obtain ⟨o, h5, h6⟩ := hw1.bl (M0, false, hmapE es c) (by repeat (first | exact List.Mem.head _ | apply List.Mem.tail | apply List.mem_append_right))
      rw [h5]
      exact congrArg some h6
    have hsz1 := hw1.kx.size
    clear hw1 hy1 hy2
    rintro e2 W3 (⟨rfl, hJ3, hk3⟩ | ⟨rfl, hJx3⟩)
    · have hI3 := hk3.2.2 r5 _ (by omega) hI1 rfl
      have hB3 := (hk3.1 B (hK B (.inl rfl))).trans hB1
      have hM3 := (hk3.1 M0 (hK M0 (.inr rfl))).trans hM1
      have n5B : r5 ≠ B := by omega
      have n5M : r5 ≠ M0 := by omega
      have hsz3 : W.heap.size ≤ W3.heap.size := by have := hk3.2.1; omega
      have hbok3 : BOK [(r5, true, hiter M0 c (seen.push e.born)), (B, false, cel [.map (some M0)] 80), (M0, false, hmapE es c)] W3 := by
        refine ⟨?_, by simp [n5B, n5M, nBM]⟩
        intro e he
        simp only [List.mem_cons, List.not_mem_nil, or_false] at he
        rcases he with rfl | rfl | rfl
        · exact ⟨_, hI3, rfl⟩
        · exact ⟨_, hB3, rfl⟩
        · exact ⟨_, hM3, rfl⟩
      refine ⟨.bool true, _, W3, _, rfl, hbok3.wok, ?_⟩
      refine xo_notOp rfl rfl rfl ?_
      with_reducible refine xo_nil ?_
      with_reducible repeat (first | refine xq_then ?_ | refine xq_blockN ?_ | refine xq_scopeN ?_)
      with_reducible repeat refine xc_seq ?_
      refine xc_condF rfl ?_
      with_reducible refine xc_skip ?_
      with_reducible repeat (first | refine xq_then ?_ | refine xq_blockN ?_ | refine xq_scopeN ?_)
      refine xq_againJ _ _ _ _ _ _ (seen.push e.born, ys ++ [k]) hst (by simp only [List.length_append, List.length_cons, List.length_nil]; omega) ⟨rfl, rfl, trivial⟩
        (fun w1 hw1 => ⟨hw1.bok (by repeat (first | exact List.Sublist.refl _ | apply List.Sublist.cons_cons | apply List.Sublist.cons | exact List.nil_sublist _)), hJ _ W3 w1 (some r5) hJ3 (hw1.kx.grown (fun k q => congrArg some (hXW _ k q))) (hwalk W3 _ hI3), hr5, Nat.le_trans hsz3 hw1.kx.size⟩)
    · refine ⟨.bool false, [], W3, XNone, rfl, WOK.start _ _, ?_⟩
      refine xo_notOp rfl rfl rfl ?_
      with_reducible refine xo_nil ?_
      with_reducible repeat (first | refine xq_then ?_ | refine xq_blockN ?_ | refine xq_scopeN ?_)
      with_reducible repeat refine xc_seq ?_
      refine xc_condT rfl ?_
      with_reducible repeat refine xc_seq ?_
      with_reducible refine xc_ret ?_
      with_reducible repeat (first | refine xq_thenR ?_ | refine xq_blockR ?_ | refine xq_scopeR ?_)
      exact xq_ret0 rfl fun w2 hw2 => ⟨⟨_, rfl⟩, .inr ⟨_, trivial, hJx _ W3 w2 none hJx3 (hw2.kx.grown (fun k q => q.elim)) (fun r e => by cases e)⟩⟩
theorem keysM_enters : ∀ args w, (callFunc 53 args).run Tryd.prog w = .ok (.enter 53 args) w := enters_of Tryd.func53 (by kernel_rfl) rfl
theorem keysM_calls (M0 : Nat) (w : World) :
    Calls Tryd.prog 53 #[.map (some M0)] w fun e w' => ∃ B, e = .returned (.func (.func 73) #[] #[.pointer (some ⟨B, 0, none⟩)]) ∧ w.heap.size ≤ B ∧ w'.heap[B]? = some (.cells #[.map (some M0)] 80 (0, 0)) ∧ Below w.heap.size w w' := by
  refine x_calls (X := XNone) Tryd.func53 rfl rfl rfl ?_
  with_reducible repeat refine xc_seq ?_
  with_reducible refine xc_region ?_
  refine xo_box rfl rfl rfl rfl (fun b1 => ?_)
  refine xo_asg rfl rfl rfl ?_
  with_reducible refine xo_nil ?_
  with_reducible repeat (first | refine xq_then ?_ | refine xq_blockN ?_ | refine xq_scopeN ?_)
  with_reducible repeat refine xc_seq ?_
  with_reducible refine xc_region ?_
  refine xo_mkf rfl rfl rfl rfl ?_
  refine xo_asg rfl rfl rfl ?_
  with_reducible refine xo_nil ?_
  with_reducible repeat (first | refine xq_then ?_ | refine xq_blockN ?_ | refine xq_scopeN ?_)
  with_reducible repeat refine xc_seq ?_
  with_reducible refine xc_ret ?_
  with_reducible repeat (first | refine xq_thenR ?_ | refine xq_blockR ?_ | refine xq_scopeR ?_)
  exact xq_ret1 rfl rfl fun w' hw => ⟨b1, rfl, hw.own (by repeat (first | exact List.Mem.head _ | apply List.Mem.tail | apply List.mem_append_right)), hw.obj (wr := true) (cs := [.map (some M0)]) (by repeat (first | exact List.Mem.head _ | apply List.Mem.tail | apply List.mem_append_right)), hw.kx.below⟩
end Go.Proofs.YtcmepdamemnbkaaDoor
namespace Go.Proofs.YtcmepdamemnbkaaDoor
open Go.RowKit Go.Proofs.YtcmepdamemnbkaaDoorW.PrintWords
set_option linter.unusedVariables false
set_option linter.unusedSimpArgs false
end Go.Proofs.YtcmepdamemnbkaaDoor
namespace Go.Proofs.YtcmepdamemnbkaaDoor
open Go.RowKit Go.Proofs.YtcmepdamemnbkaaDoorW.PrintWords
set_option linter.unusedVariables false
set_option linter.unusedSimpArgs false
theorem goneL_mem {l : List LetT} {day : Int} : ∀ (r : List RecT) (acc : List Int) (n : Int), n ∈ goneL l day acc r ↔ n ∈ acc ∨ ∃ x ∈ r, x.f0 = n ∧ goneB l day x.f0 = true
  | [], acc, n => by simp [goneL]
  | x :: r, acc, n => by
    rw [goneL, goneL_mem r]
    by_cases h : goneB l day x.f0 = true
    · rw [if_pos h, mem_insN]
      constructor
      · rintro ((rfl | h1) | ⟨y, h1, h2⟩)
        · exact .inr ⟨x, by simp, rfl, h⟩
        · exact .inl h1
        · exact .inr ⟨y, by simp [h1], h2⟩
      · rintro (h1 | ⟨y, h1, h2, h3⟩)
        · exact .inl (.inr h1)
        · rcases List.mem_cons.1 h1 with rfl | h1
          · exact .inl (.inl h2.symm)
          · exact .inr ⟨y, h1, h2, h3⟩
    · rw [if_neg h]
      constructor
      · rintro (h1 | ⟨y, h1, h2⟩)
        · exact .inl h1
        · exact .inr ⟨y, by simp [h1], h2⟩
      · rintro (h1 | ⟨y, h1, h2, h3⟩)
        · exact .inl h1
        · rcases List.mem_cons.1 h1 with rfl | h1
          · exact absurd h3 h
          · exact .inr ⟨y, h1, h2, h3⟩
theorem goneBs_in (r : List RecT) (l : List LetT) (day : Int) : goneBs r l day = inB r (goneF r l day) := by
  unfold goneBs inB
  refine List.map_congr_left fun x hx => ?_
  rw [Bool.eq_iff_iff, decide_eq_true_eq, goneF, goneL_mem]
  constructor
  · intro h; exact .inr ⟨x, hx, rfl, h⟩
  · rintro (h | ⟨y, _, h1, h2⟩)
    · cases h
    · rwa [h1] at h2
theorem inB_len (r : List RecT) (H : List Int) : (inB r H).length = r.length := by simp [inB]
theorem C_inB {w0 : World} {X : Nat → Prop} {η : Hp} {w : World} (hw : WOK w0 X η w) {b : Nat} {wr : Bool} {r : List RecT} {H : List Int} {t : TypeId} (hm : (b, wr, cel ((inB r H).map .bool) t) ∈ η) (hl : r.length ≤ 1000000) : Kd.C Kd.bool w (some ⟨b, 0, none⟩) r.length (inB r H) := by
  have := C_celB hw hm (by rw [inB_len]; omega)
  rwa [inB_len] at this
theorem check_zero {r : List RecT} {l : List LetT} (h : checkF r l = 0) : recordedF r = true := by
  unfold checkF at h
  split at h
  · assumption
  · cases h
end Go.Proofs.YtcmepdamemnbkaaDoor
namespace Go.Proofs.YtcmepdamemnbkaaDoor
open Go.RowKit Go.Proofs.YtcmepdamemnbkaaDoorW.PrintWords
set_option linter.unusedVariables false
set_option linter.unusedSimpArgs false
end Go.Proofs.YtcmepdamemnbkaaDoor
namespace Go.Proofs.YtcmepdamemnbkaaDoor
open Go.RowKit Go.Proofs.YtcmepdamemnbkaaDoorW.PrintWords
set_option linter.unusedVariables false
set_option linter.unusedSimpArgs false
end Go.Proofs.YtcmepdamemnbkaaDoor
namespace Go.Proofs.YtcmepdamemnbkaaDoor
open Go.RowKit Go.Proofs.YtcmepdamemnbkaaDoorW.PrintWords
set_option linter.unusedVariables false
set_option linter.unusedSimpArgs false
theorem ad3 (b i j : Nat) : (Addr.add (Addr.add ⟨b, 0, none⟩ ((i : Int).toNat * szN 3)) j) = ⟨b, i * 3 + j, none⟩ := by
  rw [Addr.add_lit, Addr.add_lit, show szN 3 = 3 from rfl]
  simp
theorem flat_ones (vs : List Value) : (vs.map fun v => [v]).flatten = vs := by
  induction vs with
  | nil => rfl
  | cons v vs ih => rw [List.map_cons, List.flatten_cons, ih]; rfl
def intRow (F : Hp) (v : Value) (xs : List Int) : Prop := ∃ b cap, v = .slice (some ⟨b, 0, none⟩) xs.length cap ∧ (b, true, orow 3 1 xs.length cap (xs.map (.int .i64))) ∈ F
def wayRow (F : Hp) (v : Value) (ways : List (List Int)) : Prop := ∃ b cap vs, v = .slice (some ⟨b, 0, none⟩) ways.length cap ∧ (b, true, orow 33 1 ways.length cap vs) ∈ F ∧ vs.length = ways.length ∧ ∀ k u, k < ways.length → vs[k]? = some u → intRow F u (ways.getD k [])
theorem intRow.mono {F G : Hp} {v : Value} {xs : List Int} (h : intRow F v xs) (hs : ∀ e ∈ F, e ∈ G) : intRow G v xs := by
  obtain ⟨b, cap, h1, h2⟩ := h
  exact ⟨b, cap, h1, hs _ h2⟩
theorem wayRow.mono {F G : Hp} {v : Value} {ways : List (List Int)} (h : wayRow F v ways) (hs : ∀ e ∈ F, e ∈ G) : wayRow G v ways := by
  obtain ⟨b, cap, vs, h1, h2, h3, h4⟩ := h
  exact ⟨b, cap, vs, h1, hs _ h2, h3, fun k u hk hu => (h4 k u hk hu).mono hs⟩
theorem intRow.C {F : Hp} {w0 w : World} {X : Nat → Prop} (hw : WOK w0 X F w) {v : Value} {xs : List Int} (h : intRow F v xs) (hm : xs.length ≤ 9223372036854775807) : ∃ A c, v = .slice A xs.length c ∧ xs.length ≤ c ∧ Kd.C (Kd.int .i64) w A xs.length xs := by
  obtain ⟨b, cap, h1, h2⟩ := h
  obtain ⟨o, h3, h4⟩ := hw.bl _ h2
  have h5 : xs.length ≤ cap := by obtain ⟨_, _, h5, _⟩ := h4; exact h5
  exact ⟨_, cap, h1, h5, C_orow h3 h4 rfl hm⟩
theorem wayRow.C {F : Hp} {w0 w : World} {X : Nat → Prop} (hw : WOK w0 X F w) {v : Value} {ways : List (List Int)} (h : wayRow F v ways) (hm : ways.length ≤ 9223372036854775807) (hm2 : ∀ k, k < ways.length → (ways.getD k []).length ≤ 9223372036854775807) : ∃ A c, v = .slice A ways.length c ∧ ways.length ≤ c ∧ Kd.C waysK w A ways.length ways := by
  obtain ⟨b, cap, vs, h1, h2, h3, h4⟩ := h
  obtain ⟨o, h5, h6⟩ := hw.bl _ h2
  have h7 : ways.length ≤ cap := by obtain ⟨_, _, h7, _⟩ := h6; exact h7
  refine ⟨_, cap, h1, h7, C_row (d := waysK) (cells := vs.map fun v => [v]) h5 (e := 33) (cap := cap) ?_ (by simp [h3]) (by intro c hc; obtain ⟨v, _, rfl⟩ := List.mem_map.1 hc; rfl) ?_ hm⟩
  · rw [flat_ones, List.length_map, h3]
    exact h6
  · intro j x c hx hc
    have hj : j < ways.length := (List.getElem?_eq_some_iff.1 hx).1
    have hxd : ways.getD j [] = x := by simp [List.getD_eq_getElem?_getD, hx]
    rw [List.getElem?_map] at hc
    obtain ⟨u, hu, rfl⟩ := Option.map_eq_some_iff.1 hc
    have hlx := hm2 j hj
    obtain ⟨A, c, h8, h9, h10⟩ := (h4 j u hj hu).C hw hlx
    rw [hxd] at h8 h9 h10
    subst h8
    exact ⟨A, c, rfl, h9, h10⟩
/-- a copy of a row, in four steps: nothing yet, the literal, the copy, stored -/
inductive Stg where
  | s0
  | s1 (b : Nat)
  | s2 (b b' cap : Nat)
  | s3 (b b' cap : Nat)
def Stg.x : Stg → Nat
  | .s0 => 0
  | .s1 b => b
  | .s2 b _ _ => b
  | .s3 b _ _ => b
def Stg.y : Stg → Nat
  | .s2 _ b _ => b
  | .s3 _ b _ => b
  | _ => 0
def Stg.z : Stg → Nat
  | .s2 _ _ c => c
  | .s3 _ _ c => c
  | _ => 0
def hG (m : Nat) (ints : List Value) (base : Hp) (base' : Nat → Nat → Hp) : Stg → Hp
  | .s0 => base
  | .s1 b => (b, true, orow 3 1 0 0 []) :: base
  | .s2 _ b' cap => (b', true, orow 3 1 m cap ints) :: base
  | .s3 _ b' cap => (b', true, orow 3 1 m cap ints) :: base' b' cap
end Go.Proofs.YtcmepdamemnbkaaDoor
namespace Go.Proofs.YtcmepdamemnbkaaDoor
open Go.RowKit Go.Proofs.YtcmepdamemnbkaaDoorW.PrintWords
set_option linter.unusedVariables false
set_option linter.unusedSimpArgs false
def lexF : List Int → List Int → Bool
  | x :: a, y :: b => if x = y then lexF a b else decide (x < y)
  | _, _ => false
def aheadF (xs ys : List Int) : Bool := if xs.length = ys.length then lexF xs ys else decide (xs.length < ys.length)
section
variable {P : Program} {ro : Option Nat} {n N : Nat} {ds : List Deferred} {w0 : World} {X : Nat → Prop} {Q : Exit → Act → World → Prop} {σ : Slots} {η : Hp} {ops rest : List Oper} {d : Option Tmp} {ty t t' : TypeId} {pos : String} {aft : Array Edge} {g : Option (Nat × Bool)}
theorem xo_lenR (T : Tys P) {x : Operand} {t e : TypeId} {r : RowR} {m : Nat} (hg : gS ops σ g = some true) (hx : ev σ x = some (valR r m)) (h0 : r = none → m = 0) (ht : look t T.el = some e) (hN : dstOK N d = true) (h : XO P ro n N ds w0 X Q ops (putS d (.int .i64 (m : Int)) σ) η rest) :
    XO P ro n N ds w0 X Q ops σ η (⟨d, .call { callee := .builtin .len, args := #[x], argTypes := #[t] }, ty, pos, aft, g⟩ :: rest) := by
  rcases r with _ | p
  · have := h0 rfl
    subst this
    exact xo_len T hg hx ht hN h
  · exact xo_len T hg hx ht hN h
end
end Go.Proofs.YtcmepdamemnbkaaDoor
namespace Go.Proofs.YtcmepdamemnbkaaDoor
open Go.RowKit Go.Proofs.YtcmepdamemnbkaaDoorW.PrintWords
set_option linter.unusedVariables false
set_option linter.unusedSimpArgs false
end Go.Proofs.YtcmepdamemnbkaaDoor
namespace Go.Proofs.YtcmepdamemnbkaaDoor
open Go.RowKit Go.MapKept
set_option linter.unusedVariables false
set_option linter.unusedSimpArgs false
end Go.Proofs.YtcmepdamemnbkaaDoor
namespace Go.Proofs.YtcmepdamemnbkaaDoor
open Go.RowKit Go.Proofs.YtcmepdamemnbkaaDoorW.PrintWords
set_option linter.unusedVariables false
set_option linter.unusedSimpArgs false
end Go.Proofs.YtcmepdamemnbkaaDoor
namespace Go.Proofs.YtcmepdamemnbkaaDoor
open Go.RowKit Go.Proofs.YtcmepdamemnbkaaDoorW.PrintWords
set_option linter.unusedVariables false
set_option linter.unusedSimpArgs false
end Go.Proofs.YtcmepdamemnbkaaDoor
namespace Go.Proofs.YtcmepdamemnbkaaDoor
open Go.RowKit Go.Proofs.YtcmepdamemnbkaaDoorW.PrintWords
set_option linter.unusedVariables false
set_option linter.unusedSimpArgs false
theorem lexF_irrefl : ∀ a : List Int, lexF a a = false
  | [] => rfl
  | x :: a => by rw [lexF, if_pos rfl]; exact lexF_irrefl a
theorem lexF_tri : ∀ a b : List Int, a.length = b.length → lexF a b = false → lexF b a = false → a = b
  | [], [], _, _, _ => rfl
  | [], _ :: _, h, _, _ => by simp at h
  | _ :: _, [], h, _, _ => by simp at h
  | x :: a, y :: b, h, h1, h2 => by
    rw [lexF] at h1 h2
    by_cases e : x = y
    · subst e
      rw [if_pos rfl] at h1 h2
      rw [lexF_tri a b (by simpa using h) h1 h2]
    · rw [if_neg e] at h1
      rw [if_neg (fun q => e q.symm)] at h2
      have := of_decide_eq_false h1
      have := of_decide_eq_false h2
      omega
theorem lexF_trans : ∀ a b c : List Int, lexF a b = true → lexF b c = true → lexF a c = true
  | [], _, _, h, _ => by simp [lexF] at h
  | _ :: _, [], _, h, _ => by simp [lexF] at h
  | _ :: _, _ :: _, [], _, h => by simp [lexF] at h
  | x :: a, y :: b, z :: c, h1, h2 => by
    rw [lexF] at h1 h2 ⊢
    by_cases e1 : x = y
    · subst e1
      rw [if_pos rfl] at h1
      by_cases e2 : x = z
      · subst e2
        rw [if_pos rfl] at h2 ⊢
        exact lexF_trans a b c h1 h2
      · rw [if_neg e2] at h2 ⊢
        exact h2
    · rw [if_neg e1] at h1
      have h1 := of_decide_eq_true h1
      by_cases e2 : y = z
      · subst e2
        rw [if_neg e1]
        exact decide_eq_true h1
      · rw [if_neg e2] at h2
        have h2 := of_decide_eq_true h2
        rw [if_neg (by omega)]
        exact decide_eq_true (by omega)
theorem aheadF_irrefl (a : List Int) : aheadF a a = false := by rw [aheadF, if_pos rfl, lexF_irrefl]
theorem aheadF_tri {a b : List Int} (h1 : aheadF a b = false) (h2 : aheadF b a = false) : a = b := by
  unfold aheadF at h1 h2
  by_cases e : a.length = b.length
  · rw [if_pos e] at h1
    rw [if_pos e.symm] at h2
    exact lexF_tri a b e h1 h2
  · rw [if_neg e] at h1
    rw [if_neg (fun q => e q.symm)] at h2
    have := of_decide_eq_false h1
    have := of_decide_eq_false h2
    omega
theorem aheadF_trans {a b c : List Int} (h1 : aheadF a b = true) (h2 : aheadF b c = true) : aheadF a c = true := by
  unfold aheadF at *
  by_cases e1 : a.length = b.length <;> by_cases e2 : b.length = c.length
  · rw [if_pos e1] at h1
    rw [if_pos e2] at h2
    rw [if_pos (e1.trans e2)]
    exact lexF_trans a b c h1 h2
  · rw [if_neg e2] at h2
    rw [if_neg (fun q => e2 (e1.symm.trans q))]
    have := of_decide_eq_true h2
    exact decide_eq_true (by omega)
  · rw [if_neg e1] at h1
    rw [if_neg (fun q => e1 (q.trans e2.symm))]
    have := of_decide_eq_true h1
    exact decide_eq_true (by omega)
  · rw [if_neg e1] at h1
    rw [if_neg e2] at h2
    have h3 := of_decide_eq_true h1
    have h4 := of_decide_eq_true h2
    rw [if_neg (by omega)]
    exact decide_eq_true (by omega)
/-- the least of the good lists, if there is one -/
structure Least (good : List Int → Prop) (best : List Int) (found : Prop) : Prop where
  none : ¬ found → best = [] ∧ ∀ y, ¬ good y
  is : found → good best ∧ ∀ y, good y → aheadF y best = false
theorem Least.eq {g g' : List Int → Prop} {b b' : List Int} {f f' : Prop} (h : Least g b f) (k : Least g' b' f') (hg : ∀ y, g y ↔ g' y) : b = b' := by
  by_cases hf : f
  · by_cases hf' : f'
    · obtain ⟨h1, h2⟩ := h.is hf
      obtain ⟨h3, h4⟩ := k.is hf'
      exact aheadF_tri (h4 _ ((hg _).1 h1)) (h2 _ ((hg _).2 h3))
    · exact absurd ((hg _).1 (h.is hf).1) ((k.none hf').2 _)
  · by_cases hf' : f'
    · exact absurd ((hg _).2 (k.is hf').1) ((h.none hf).2 _)
    · rw [(h.none hf).1, (k.none hf').1]
theorem Least.mono {g g' : List Int → Prop} {b : List Int} {f f' : Prop} (h : Least g b f) (hg : ∀ y, g y ↔ g' y) (hf : f ↔ f') : Least g' b f' :=
  ⟨fun q => ⟨(h.none (fun x => q (hf.1 x))).1, fun y hy => (h.none (fun x => q (hf.1 x))).2 y ((hg y).2 hy)⟩, fun q => ⟨(hg _).1 (h.is (hf.2 q)).1, fun y hy => (h.is (hf.2 q)).2 y ((hg y).2 hy)⟩⟩
theorem Least.start : Least (fun _ => False) [] False := ⟨fun _ => ⟨rfl, fun _ h => h⟩, fun h => h.elim⟩
/-- one list more: it is good and ahead (or the first): it takes the place -/
theorem Least.step {g : List Int → Prop} {b : List Int} {f : Prop} (h : Least g b f) (x : List Int) : (f → aheadF x b = true) → Least (fun y => g y ∨ y = x) x True := fun hx =>
  ⟨fun q => absurd trivial q, fun _ => ⟨.inr rfl, fun y hy => by
    rcases hy with hy | rfl
    · by_cases hf : f
      · obtain ⟨h1, h2⟩ := h.is hf
        cases h3 : aheadF y x with
        | false => rfl
        | true =>
          have h4 := aheadF_trans h3 (hx hf)
          rw [h2 y hy] at h4
          cases h4
      · exact absurd hy ((h.none hf).2 y)
    · exact aheadF_irrefl _⟩⟩
/-- it is good and not ahead: what was best stays -/
theorem Least.stay {g : List Int → Prop} {b : List Int} {f : Prop} (h : Least g b f) (x : List Int) (hf : f) (hx : aheadF x b = false) : Least (fun y => g y ∨ y = x) b f :=
  ⟨fun q => absurd hf q, fun _ => ⟨.inl (h.is hf).1, fun y hy => by
    rcases hy with hy | rfl
    · exact (h.is hf).2 y hy
    · exact hx⟩⟩
end Go.Proofs.YtcmepdamemnbkaaDoor
namespace Go.Proofs.YtcmepdamemnbkaaDoor
open Go.RowKit Go.Proofs.YtcmepdamemnbkaaDoorW.PrintWords
set_option linter.unusedVariables false
set_option linter.unusedSimpArgs false
def idsL (r : List RecT) : List Int := r.map fun x => x.f0
theorem idsL_at {r : List RecT} {i : Nat} (h : i < r.length) : (idsL r).getD i 0 = idAt r i := by
  simp [idsL, idAt, List.getD_eq_getElem?_getD, List.getElem?_eq_getElem h]
end Go.Proofs.YtcmepdamemnbkaaDoor
namespace Go.Proofs.YtcmepdamemnbkaaDoor
open Go.RowKit Go.Proofs.YtcmepdamemnbkaaDoorW.PrintWords
set_option linter.unusedVariables false
set_option linter.unusedSimpArgs false
theorem sortF_id {xs : List Int} (h : xs.Pairwise fun a b => decide (a ≤ b) = true) : sortF xs = xs := by
  have tr : ∀ a b c : Int, decide (a ≤ b) = true → decide (b ≤ c) = true → decide (a ≤ c) = true := fun a b c h1 h2 => by simp at *; omega
  have tot : ∀ a b : Int, (decide (a ≤ b) || decide (b ≤ a)) = true := fun a b => by simp; omega
  refine List.Perm.eq_of_pairwise (le := fun a b => decide (a ≤ b) = true) (fun a b _ _ h1 h2 => ?_) (List.pairwise_mergeSort tr tot xs) h (List.mergeSort_perm xs _)
  simp only [decide_eq_true_eq] at h1 h2
  omega
end Go.Proofs.YtcmepdamemnbkaaDoor
namespace Go.Proofs.YtcmepdamemnbkaaDoor
open Go.RowKit Go.Proofs.YtcmepdamemnbkaaDoorW.PrintWords
set_option linter.unusedVariables false
set_option linter.unusedSimpArgs false
section
variable {P : Program} {n N : Nat} {w0 : World} {fn : Func} {R : Ending → World → Prop} {σ : Slots} {η : Hp}
theorem xq_retM3 {t u s : Tmp} {v x y : Value} {D : Nat} (hf : fn.results = #[.tmp t, .tmp u, .tmp s]) (hv : slot t σ = some v) (hx : slot u σ = some x) (hy : slot s σ = some y) (h : ∀ w, WOK w0 XNone η w → R (.returned (.tuple #[v, x, y])) w) :
    XQ N [mark_ D] w0 XNone (bodyPostM Fence.wide n P fn R) .ret σ ((D, true, hdef) :: η) := by
  intro a w ha hw
  obtain ⟨o, hD, ho⟩ := hw.bl (D, true, hdef) (List.mem_cons_self ..)
  rw [show o = _ from ho] at hD
  show LeavesInM _ _ _ _ _ _ a.defers _ w
  rw [ha.df]
  refine ⟨by simp, .inl ⟨D, _, rfl, run_takeDeferred hD, ?_⟩⟩
  have hw' : WOK w0 XNone η (w.putObj D (.deferred none)) := by
    have h1 : D ∉ η.map (·.1) := by have := hw.nd; simp only [List.map_cons, List.nodup_cons] at this; exact this.1
    have h2 := hw.sub (List.sublist_cons_self _ _)
    have h3 : w0.heap.size ≤ D := by
      rcases hw.ow (D, true, hdef) (List.mem_cons_self ..) rfl with h4 | h4
      · exact h4
      · exact h4.elim
    refine ⟨Kx.of_below (below_takeD h2.kx.below h3), ?_, h2.nd, h2.ow⟩
    intro e he
    obtain ⟨o, h4, h5⟩ := h2.bl e he
    exact ⟨o, (World.putObj_heap_other (fun q => h1 (List.mem_map.2 ⟨e, he, q⟩))).trans h4, h5⟩
  exact ⟨.tuple #[v, x, y], by rw [results_tmp3 hf, getD_of (ha.sl _ _ hv), getD_of (ha.sl _ _ hx), getD_of (ha.sl _ _ hy)], h _ hw'⟩
theorem xq_retM03 {t u s : Tmp} {v x y : Value} (hf : fn.results = #[.tmp t, .tmp u, .tmp s]) (hv : slot t σ = some v) (hx : slot u σ = some x) (hy : slot s σ = some y) (h : ∀ w, WOK w0 XNone η w → R (.returned (.tuple #[v, x, y])) w) :
    XQ N [] w0 XNone (bodyPostM Fence.wide n P fn R) .ret σ η := by
  intro a w ha hw
  show LeavesInM _ _ _ _ _ _ a.defers _ w
  rw [ha.df]
  exact ⟨.tuple #[v, x, y], by rw [results_tmp3 hf, getD_of (ha.sl _ _ hv), getD_of (ha.sl _ _ hx), getD_of (ha.sl _ _ hy)], h _ hw⟩
theorem xq_ret3 {X : Nat → Prop} {t u s : Tmp} {v x y : Value} (hf : fn.results = #[.tmp t, .tmp u, .tmp s]) (hv : slot t σ = some v) (hx : slot u σ = some x) (hy : slot s σ = some y) (h : ∀ w, WOK w0 X η w → R (.returned (.tuple #[v, x, y])) w) : XQ N [] w0 X (bodyPost P fn R) .ret σ η :=
  fun a w ha hw => ⟨ha.df, .tuple #[v, x, y], by rw [results_tmp3 hf, getD_of (ha.sl _ _ hv), getD_of (ha.sl _ _ hx), getD_of (ha.sl _ _ hy)], h w hw⟩
end
theorem imDel_stM {L : List (Int × Nat)} {id : Int} (h : (L.map (·.1)).Nodup) : imDel id (stM L) = stM (L.filter fun p => !decide (p.1 = id)) := by
  induction L with
  | nil => rfl
  | cons p L ih =>
    rw [List.map_cons, List.nodup_cons] at h
    by_cases e : p.1 = id
    · have : L.filter (fun p => !decide (p.1 = id)) = L := List.filter_eq_self.2 fun q hq => by
        have : q.1 ≠ id := fun e2 => h.1 (by rw [e, ← e2]; exact List.mem_map.2 ⟨q, hq, rfl⟩)
        simp [this]
      rw [List.filter_cons, if_neg (by simp [e]), this]
      simp [stM, imDel, e]
    · rw [List.filter_cons, if_pos (by simp [e])]
      simp only [stM, List.map_cons, imDel, e, if_false]
      exact congrArg _ (ih h.2)
section
variable {P : Program} {ro : Option Nat} {n N : Nat} {ds : List Deferred} {w0 : World} {X : Nat → Prop} {Q : Exit → Act → World → Prop} {σ : Slots} {η : Hp} {ops rest : List Oper} {d : Option Tmp} {ty : TypeId} {pos : String} {aft : Array Edge} {g : Option (Nat × Bool)}
theorem xo_mdel (T : Tys P) {t tk te tk' : TypeId} {m x : Operand} {b : Nat} {L : List (Int × Nat)} {k : Int} {η' : Hp} (hg : gS ops σ g = some true) (ht : look t T.mp = some (tk, te)) (hk : look tk T.ik = some .i64) (hm : ev σ m = some (.map (some b))) (hx : ev σ x = some (.int .i64 k)) (hb : (b, true, hmap (stM L)) ∈ η) (hL : (L.map (·.1)).Nodup)
    (hU : Upd b (hmap (stM (L.filter fun p => !decide (p.1 = k)))) η η') (hN : dstOK N d = true) (h : XO P ro n N ds w0 X Q ops (putS d (.tuple #[]) σ) η' rest) :
    XO P ro n N ds w0 X Q ops σ η (⟨d, .call { callee := .builtin .delete, args := #[m, x], argTypes := #[t, tk'] }, ty, pos, aft, g⟩ :: rest) :=
  xo_base rfl hg fun a w ha hw => by
    obtain ⟨o, h1, h2⟩ := (hw.imap hb).del (T.hmp _ (look_mem ht)) (T.hik _ (look_mem hk)) ty tk' k
    rw [imDel_stM hL] at h2
    obtain ⟨o', h3, h4⟩ := hmap_of h2
    refine ⟨.value (.tuple #[]), _, _, ?_, .inl rfl, h _ _ (ha.put hN _) (hw.upd hU (OneB.putObj w b o) h3 h4)⟩
    simp only [execOp, resolve, invoke, builtin, Sem.run_bind, Sem.run_pure, Result.andThen_ok, List.map_toArray, List.map_cons, List.map_nil, ha.ev hm, ha.ev hx, h1]
end
theorem WOK.apart {w0 : World} {X : Nat → Prop} {ζ η : Hp} {w : World} (h : WOK w0 X (ζ ++ η) w) {e e' : Nat × Bool × HP} (he : e ∈ ζ) (he' : e' ∈ η) : e'.1 ≠ e.1 := by
  have := h.nd
  rw [List.map_append, List.nodup_append] at this
  exact fun q => this.2.2 _ (List.mem_map.2 ⟨e, he, rfl⟩) _ (List.mem_map.2 ⟨e', he', rfl⟩) q.symm
def delL (L : List (Int × Nat)) (ys : List Int) : List (Int × Nat) := ys.foldl (fun L n => L.filter fun p => !decide (p.1 = n)) L
theorem delL_app (L : List (Int × Nat)) (ys : List Int) (x : Int) : delL L (ys ++ [x]) = (delL L ys).filter fun p => !decide (p.1 = x) := by simp [delL]
theorem delL_sub (L : List (Int × Nat)) : ∀ ys, (delL L ys).Sublist L := by
  intro ys
  induction ys generalizing L with
  | nil => exact List.Sublist.refl _
  | cons y ys ih => exact (ih _).trans List.filter_sublist
theorem delL_keys (L : List (Int × Nat)) (ys : List Int) : (delL L ys).map (·.1) = (L.map (·.1)).filter fun n => !decide (n ∈ ys) := by
  induction ys generalizing L with
  | nil =>
    rw [List.filter_eq_self.2 (fun n _ => by simp)]
    rfl
  | cons y ys ih =>
    show (delL (L.filter fun p => !decide (p.1 = y)) ys).map (·.1) = _
    rw [ih, List.filter_map, List.filter_map, List.filter_filter]
    congr 1
    refine List.filter_congr fun p _ => ?_
    by_cases h1 : p.1 = y <;> by_cases h2 : p.1 ∈ ys <;> simp [h1, h2]
/-- how many pieces of a batch are out -/
def outF (m : List MovT) (id : Int) : Int := (storeF m id).d - (storeF m id).b
def recallC (r : List RecT) (l : List LetT) (m : List MovT) (day : Int) : Int := if checkF r l = 0 then (if countF r m then openF r l day [] else 82) else checkF r l
def heldF (r : List RecT) (l : List LetT) (day : Int) : List Int := (batchesF r).filter fun n => !decide (n ∈ holdsF r (goneF r l day))
def recallR (r : List RecT) (l : List LetT) (m : List MovT) (day : Int) : List Int := if recallC r l m day = 0 then (heldF r l day).filter fun n => decide (0 < outF m n) else []
def recallN (r : List RecT) (l : List LetT) (m : List MovT) (day : Int) : Int := ((recallR r l m day).map (outF m)).sum
theorem batches_sub (r : List RecT) : (batchesF r).Sublist (r.map fun x => x.f0) := List.Sublist.map _ List.filter_sublist
theorem batches_le {r : List RecT} (hs : SortedIds r) : (batchesF r).Pairwise fun a b => decide (a ≤ b) = true := by
  refine List.Pairwise.sublist (batches_sub r) ?_
  rw [List.pairwise_iff_getElem]
  intro i j hi hj hij
  simp only [List.length_map] at hi hj
  have := sorted_lt hs j i hij hj
  simp only [idAt, List.getD_eq_getElem?_getD, List.getElem?_eq_getElem hi, List.getElem?_eq_getElem hj, Option.getD_some] at this
  simp only [List.getElem_map, decide_eq_true_eq]
  omega
theorem openF_day {r : List RecT} {l : List LetT} {day : Int} (h : checkF r l = 0) : openF r l day [] = if inF 0 100000 day then 0 else 2 := by rw [openF, if_pos h]; simp
/-- the sum so far -/
theorem recSum_B {r : List RecT} {m : List MovT} (h : countF r m = true) : ∀ ids : List Int, -(8000000 * (ids.length : Int)) ≤ (ids.map (outF m)).sum ∧ (ids.map (outF m)).sum ≤ 8000000 * (ids.length : Int)
  | [] => by simp
  | x :: ids => by
    have h1 := recSum_B h ids
    have h2 := count_B h x
    unfold StB at h2
    simp only [List.map_cons, List.sum_cons, List.length_cons, outF] at *
    omega
set_option maxHeartbeats 16000000 in
theorem recall_calls (A B C : Option Addr) (c c' c2 : Nat) (r : List RecT) (l : List LetT) (m : List MovT) (day : Int) (w : World) (hr : Kd.C recK w A r.length r) (hl : Kd.C letK w B l.length l) (hm : Kd.C movK w C m.length m) (hk : Bytes r) (hkl : BytesL l) (hkm : BytesM m) (hglob : GlobOK w) :
    Calls Tryd.prog 15 #[.slice A r.length c, .slice B l.length c', .slice C m.length c2, .int .i64 day] w fun e w' => ∃ rr : RowR, e = .returned (.tuple #[valR rr (recallR r l m day).length, .int .i64 (recallN r l m day), .int .i64 (recallC r l m day)]) ∧ RowAt 3 w.heap.size w' rr (recallR r l m day) ∧ Below w.heap.size w w' := by
  refine x_callsM 3 Tryd.func15 rfl rfl rfl (WOK.start XNone w) ?_
  with_reducible repeat refine xc_seq ?_
  with_reducible refine xc_region ?_
  refine xo_asg rfl rfl rfl ?_
  refine xo_asg rfl rfl rfl ?_
  refine xo_asg rfl rfl rfl ?_
  with_reducible refine xo_nil ?_
  with_reducible repeat (first | refine xq_then ?_ | refine xq_blockN ?_ | refine xq_scopeN ?_)
  with_reducible repeat refine xc_seq ?_
  with_reducible refine xc_region ?_
  refine xo_mv rfl rfl rfl ?_
  refine xo_mv rfl rfl rfl ?_
  refine xo_callB (fs := []) (cs := []) rfl rfl rfl check_enters rfl (fun w1 hw1 => check_calls A B c c' r l w1 (Kd.C_below hr hw1.kx.below) (Kd.C_below hl hw1.kx.below) hk hkl) ?_
  refine xo_asg rfl rfl rfl ?_
  with_reducible refine xo_nil ?_
  with_reducible repeat (first | refine xq_then ?_ | refine xq_blockN ?_ | refine xq_scopeN ?_)
  with_reducible repeat refine xc_seq ?_
  with_reducible refine xc_region ?_
  refine xo_mv rfl rfl rfl ?_
  refine xo_neq rfl rfl rfl rfl ?_
  with_reducible refine xo_nil ?_
  with_reducible repeat (first | refine xq_then ?_ | refine xq_blockN ?_ | refine xq_scopeN ?_)
  with_reducible repeat refine xc_seq ?_
  refine xc_cond rfl (fun hck => ?_) (fun hck => ?_)
  · have hck : ¬ checkF r l = 0 := by simpa using hck
    have e1 : recallC r l m day = checkF r l := by rw [recallC, if_neg hck]
    have e2 : recallR r l m day = [] := by rw [recallR, e1, if_neg hck]
    have e3 : recallN r l m day = 0 := by rw [recallN, e2]; rfl
    with_reducible repeat refine xc_seq ?_
    with_reducible refine xc_region ?_
    refine xo_mv rfl rfl rfl ?_
    refine xo_asg rfl rfl rfl ?_
    refine xo_asg rfl rfl rfl ?_
    refine xo_asg rfl rfl rfl ?_
    with_reducible refine xo_nil ?_
    with_reducible repeat (first | refine xq_then ?_ | refine xq_blockN ?_ | refine xq_scopeN ?_)
    with_reducible repeat refine xc_seq ?_
    with_reducible refine xc_ret ?_
    with_reducible repeat (first | refine xq_thenR ?_ | refine xq_blockR ?_ | refine xq_scopeR ?_)
    refine xq_retM03 rfl rfl rfl rfl fun w' hw => ⟨none, by rw [e1, e2, e3]; rfl, ?_, hw.kx.below⟩
    rw [e2]
    exact ⟨fun _ => rfl, fun p hp => by cases hp⟩
  have hck : checkF r l = 0 := by simpa using hck
  have hrec := check_zero hck
  have hs := sorted_of hrec
  have hlen := recorded_len hrec
  with_reducible refine xc_skip ?_
  with_reducible repeat (first | refine xq_then ?_ | refine xq_blockN ?_ | refine xq_scopeN ?_)
  cases hcf : countF r m
  · have e1 : recallC r l m day = 82 := by rw [recallC, if_pos hck, hcf]; rfl
    have e2 : recallR r l m day = [] := by rw [recallR, e1]; rfl
    have e3 : recallN r l m day = 0 := by rw [recallN, e2]; rfl
    with_reducible repeat refine xc_seq ?_
    with_reducible refine xc_region ?_
    refine xo_mv rfl rfl rfl ?_
    refine xo_mv rfl rfl rfl ?_
    refine xo_call (fs := []) (cs := []) rfl rfl rfl count_enters rfl (fun w1 hw1 => (count_calls A C c c2 r m w1 (Kd.C_below hr hw1.kx.below) (Kd.C_below hm hw1.kx.below) hkm hs (by omega) (hglob.below hw1.kx.below)).mono ?_)
    rintro e w2 (⟨_, rfl, hb⟩ | ⟨h, _⟩)
    rotate_left
    · rw [hcf] at h; cases h
    refine ⟨_, _, rfl, hw1.below hb, ?_⟩
    clear hb hw1
    refine xo_mv rfl rfl rfl ?_
    refine xo_ext rfl rfl rfl rfl ?_
    refine xo_ext rfl rfl rfl rfl ?_
    refine xo_alloc T_ rfl rfl rfl rfl (fun b12 => ?_)
    refine xo_store T_ rfl rfl rfl rfl (by repeat (first | exact List.Mem.head _ | apply List.Mem.tail | apply List.mem_append_right)) rfl rfl rfl rfl (by repeat (first | exact Upd.head | apply Upd.tail | apply Upd.app)) rfl ?_
    refine xo_asg rfl rfl rfl ?_
    with_reducible refine xo_nil ?_
    with_reducible repeat (first | refine xq_then ?_ | refine xq_blockN ?_ | refine xq_scopeN ?_)
    with_reducible repeat refine xc_seq ?_
    with_reducible refine xc_region ?_
    refine xo_mv rfl rfl rfl ?_
    refine xo_notOp rfl rfl rfl ?_
    with_reducible refine xo_nil ?_
    with_reducible repeat (first | refine xq_then ?_ | refine xq_blockN ?_ | refine xq_scopeN ?_)
    with_reducible repeat refine xc_seq ?_
    refine xc_condT rfl ?_
    with_reducible repeat refine xc_seq ?_
    with_reducible refine xc_region ?_
    refine xo_asg rfl rfl rfl ?_
    refine xo_asg rfl rfl rfl ?_
    refine xo_asg rfl rfl rfl ?_
    with_reducible refine xo_nil ?_
    with_reducible repeat (first | refine xq_then ?_ | refine xq_blockN ?_ | refine xq_scopeN ?_)
    with_reducible repeat refine xc_seq ?_
    with_reducible refine xc_ret ?_
    with_reducible repeat (first | refine xq_thenR ?_ | refine xq_blockR ?_ | refine xq_scopeR ?_)
    refine xq_retM03 rfl rfl rfl rfl fun w' hw => ⟨none, by rw [e1, e2, e3]; rfl, ?_, hw.kx.below⟩
    rw [e2]
    exact ⟨fun _ => rfl, fun p hp => by cases hp⟩
  with_reducible repeat refine xc_seq ?_
  with_reducible refine xc_region ?_
  refine xo_mv rfl rfl rfl ?_
  refine xo_mv rfl rfl rfl ?_
  refine xo_call (fs := []) (cs := []) rfl rfl rfl count_enters rfl (fun w1 hw1 => (count_calls A C c c2 r m w1 (Kd.C_below hr hw1.kx.below) (Kd.C_below hm hw1.kx.below) hkm hs (by omega) (hglob.below hw1.kx.below)).mono ?_)
  rintro e w2 (⟨h, _⟩ | ⟨_, M, L, rfl, hL, hz⟩)
  · rw [hcf] at h; cases h
  refine ⟨_, _, rfl, hw1.join hz (fun e he => (List.mem_cons.1 he).elim (fun q => by rw [q]) (stH_true e)), ?_⟩
  clear hz hw1
  refine xo_mv rfl rfl rfl ?_
  refine xo_ext rfl rfl rfl rfl ?_
  refine xo_ext rfl rfl rfl rfl ?_
  refine xo_alloc T_ rfl rfl rfl rfl (fun b12 => ?_)
  refine xo_store T_ rfl rfl rfl rfl (by repeat (first | exact List.Mem.head _ | apply List.Mem.tail | apply List.mem_append_right)) rfl rfl rfl rfl (by repeat (first | exact Upd.head | apply Upd.tail | apply Upd.app)) rfl ?_
  refine xo_asg rfl rfl rfl ?_
  with_reducible refine xo_nil ?_
  with_reducible repeat (first | refine xq_then ?_ | refine xq_blockN ?_ | refine xq_scopeN ?_)
  have hnd : (L.map (·.1)).Nodup := by
    have := batches_nodup hs r.length (Nat.le_refl _)
    rw [List.take_of_length_le (Nat.le_refl _)] at this
    rw [hL]
    exact this
  with_reducible repeat refine xc_seq ?_
  with_reducible refine xc_region ?_
  refine xo_mv rfl rfl rfl ?_
  refine xo_notOp rfl rfl rfl ?_
  with_reducible refine xo_nil ?_
  with_reducible repeat (first | refine xq_then ?_ | refine xq_blockN ?_ | refine xq_scopeN ?_)
  with_reducible repeat refine xc_seq ?_
  refine xc_condF rfl ?_
  with_reducible refine xc_skip ?_
  with_reducible repeat (first | refine xq_then ?_ | refine xq_blockN ?_ | refine xq_scopeN ?_)
  have e0 : recallC r l m day = openF r l day [] := by rw [recallC, if_pos hck, hcf]; rfl
  by_cases ho : openF r l day [] = 0
  rotate_left
  · have hd : (!decide (openF r l day [] = 0)) = true := by simp [ho]
    have e2 : recallR r l m day = [] := by rw [recallR, e0, if_neg ho]
    have e3 : recallN r l m day = 0 := by rw [recallN, e2]; rfl
    with_reducible repeat refine xc_seq ?_
    with_reducible refine xc_region ?_
    refine xo_mv rfl rfl rfl ?_
    refine xo_mv rfl rfl rfl ?_
    refine xo_mv rfl rfl rfl ?_
    refine xo_call (fs := []) (cs := []) rfl rfl rfl open_enters rfl (fun w1 hw1 => (open_calls A B none c c' 0 r l day [] w1 (Kd.C_below hr hw1.kx.below) (Kd.C_below hl hw1.kx.below) (Kd.C_nil _ _) hk hkl).mono ?_)
    rintro e w2 ⟨sv, rfl, hb, hne, h0⟩
    obtain rfl := hne ho
    refine ⟨_, _, rfl, hw1.below hb, ?_⟩
    clear hb hne h0 hw1
    refine xo_mv rfl rfl rfl ?_
    refine xo_ext rfl rfl rfl rfl ?_
    refine xo_ext rfl rfl rfl rfl ?_
    refine xo_alloc T_ rfl rfl rfl rfl (fun b14 => ?_)
    refine xo_store T_ rfl rfl rfl rfl (by repeat (first | exact List.Mem.head _ | apply List.Mem.tail | apply List.mem_append_right)) rfl rfl rfl rfl (by repeat (first | exact Upd.head | apply Upd.tail | apply Upd.app)) rfl ?_
    refine xo_asg rfl rfl rfl ?_
    with_reducible refine xo_nil ?_
    with_reducible repeat (first | refine xq_then ?_ | refine xq_blockN ?_ | refine xq_scopeN ?_)
    with_reducible repeat refine xc_seq ?_
    with_reducible refine xc_region ?_
    refine xo_mv rfl rfl rfl ?_
    refine xo_neq rfl rfl rfl rfl ?_
    refine xo_as (i := 41) rfl (congrArg Value.bool hd) ?_
    with_reducible refine xo_nil ?_
    with_reducible repeat (first | refine xq_then ?_ | refine xq_blockN ?_ | refine xq_scopeN ?_)
    with_reducible repeat refine xc_seq ?_
    refine xc_condT rfl ?_
    with_reducible repeat refine xc_seq ?_
    with_reducible refine xc_region ?_
    refine xo_mv rfl rfl rfl ?_
    refine xo_asg rfl rfl rfl ?_
    refine xo_asg rfl rfl rfl ?_
    refine xo_asg rfl rfl rfl ?_
    with_reducible refine xo_nil ?_
    with_reducible repeat (first | refine xq_then ?_ | refine xq_blockN ?_ | refine xq_scopeN ?_)
    with_reducible repeat refine xc_seq ?_
    with_reducible refine xc_ret ?_
    with_reducible repeat (first | refine xq_thenR ?_ | refine xq_blockR ?_ | refine xq_scopeR ?_)
    refine xq_retM03 rfl rfl rfl rfl fun w' hw => ⟨none, by rw [e0, e2, e3]; rfl, ?_, hw.kx.below⟩
    rw [e2]
    exact ⟨fun _ => rfl, fun p hp => by cases hp⟩
  have hd : (!decide (openF r l day [] = 0)) = false := by simp [ho]
  have e2 : recallR r l m day = (heldF r l day).filter fun n => decide (0 < outF m n) := by rw [recallR, e0, if_pos ho]
  with_reducible repeat refine xc_seq ?_
  with_reducible refine xc_region ?_
  refine xo_mv rfl rfl rfl ?_
  refine xo_mv rfl rfl rfl ?_
  refine xo_mv rfl rfl rfl ?_
  refine xo_call (fs := []) (cs := []) rfl rfl rfl open_enters rfl (fun w1 hw1 => (open_calls A B none c c' 0 r l day [] w1 (Kd.C_below hr hw1.kx.below) (Kd.C_below hl hw1.kx.below) (Kd.C_nil _ _) hk hkl).mono ?_)
  rintro e w2 ⟨sv, rfl, hb, hne, h0⟩
  obtain ⟨G, rfl, hM1, hM2⟩ := h0 ho
  obtain ⟨oM, hM3, hM4⟩ := hmap_of hM2
  refine ⟨_, _, rfl, hw1.more hb hM1 hM3 hM4, ?_⟩
  clear hb hM2 hM3 hM4 hne h0 hM1 hw1
  refine xo_mv rfl rfl rfl ?_
  refine xo_ext rfl rfl rfl rfl ?_
  refine xo_ext rfl rfl rfl rfl ?_
  refine xo_alloc T_ rfl rfl rfl rfl (fun b14 => ?_)
  refine xo_store T_ rfl rfl rfl rfl (by repeat (first | exact List.Mem.head _ | apply List.Mem.tail | apply List.mem_append_right)) rfl rfl rfl rfl (by repeat (first | exact Upd.head | apply Upd.tail | apply Upd.app)) rfl ?_
  refine xo_asg rfl rfl rfl ?_
  with_reducible refine xo_nil ?_
  with_reducible repeat (first | refine xq_then ?_ | refine xq_blockN ?_ | refine xq_scopeN ?_)
  with_reducible repeat refine xc_seq ?_
  with_reducible refine xc_region ?_
  refine xo_mv rfl rfl rfl ?_
  refine xo_neq rfl rfl rfl rfl ?_
  refine xo_as (i := 41) rfl (congrArg Value.bool hd) ?_
  with_reducible refine xo_nil ?_
  with_reducible repeat (first | refine xq_then ?_ | refine xq_blockN ?_ | refine xq_scopeN ?_)
  with_reducible repeat refine xc_seq ?_
  refine xc_condF rfl ?_
  with_reducible refine xc_skip ?_
  with_reducible repeat (first | refine xq_then ?_ | refine xq_blockN ?_ | refine xq_scopeN ?_)
  with_reducible repeat refine xc_seq ?_
  with_reducible refine xc_region ?_
  refine xo_loadN T_ rfl rfl rfl (by repeat (first | exact List.Mem.head _ | apply List.Mem.tail | apply List.mem_append_right)) rfl rfl ?_
  refine xo_fa T_ rfl rfl rfl rfl rfl ?_
  refine xo_load0 T_ rfl rfl rfl (by repeat (first | exact List.Mem.head _ | apply List.Mem.tail | apply List.mem_append_right)) rfl rfl ?_
  refine xo_holds rfl rfl rfl rfl (fun b2 b3 => ?_)
  with_reducible refine xo_nil ?_
  with_reducible repeat (first | refine xq_then ?_ | refine xq_blockN ?_ | refine xq_scopeN ?_)
  with_reducible repeat refine xc_seq ?_
  with_reducible refine xc_block ?_
  refine xc_know (φ := (∀ e ∈ ((b12, true, cel [.map (some M)] 80) :: (M, true, hmap (stM L)) :: (stH (storeF m) L ++ []) : Hp), ¬ needOf w b2 b3 G e.1) ∧ b2 ≠ b3) (fun w1 hw1 => ?_) fun hφ => ?_
  · refine ⟨fun e he hne => ?_, ne_of_nd hw1⟩
    have hap := fun e0 (h0 : e0 ∈ ([(b3, true, cel [.map (some G)] 62), (b2, true, cel [.slice A r.length c, .map (some G)] 91), (b14, true, cel [.slice A r.length c, .map (some G)] 91), (G, true, hmap (setV (goneF r l day)))] : Hp)) => hw1.apart (ζ := [(b3, true, cel [.map (some G)] 62), (b2, true, cel [.slice A r.length c, .map (some G)] 91), (b14, true, cel [.slice A r.length c, .map (some G)] 91), (G, true, hmap (setV (goneF r l day)))]) (η := (b12, true, cel [.map (some M)] 80) :: (M, true, hmap (stM L)) :: (stH (storeF m) L ++ [])) h0 he
    have htr : e.2.1 = true := by
      rcases List.mem_cons.1 he with rfl | he
      · rfl
      rcases List.mem_cons.1 he with rfl | he
      · rfl
      · rw [List.append_nil] at he
        exact stH_true e he
    have hown := hw1.ow e (List.mem_append_right [(b3, true, cel [.map (some G)] 62), (b2, true, cel [.slice A r.length c, .map (some G)] 91), (b14, true, cel [.slice A r.length c, .map (some G)] 91), (G, true, hmap (setV (goneF r l day)))] he) htr
    rcases hown with hown | hown
    · rcases hne with h | h | h | h
      · omega
      · exact hap _ (List.Mem.tail _ (List.Mem.head _)) h
      · exact hap _ (List.Mem.head _) h
      · exact hap _ (List.Mem.tail _ (List.Mem.tail _ (List.Mem.tail _ (List.Mem.head _)))) h
    · exact hown
  obtain ⟨hφ, h23⟩ := hφ
  have hkeys : ∀ ys, ((delL L ys).map (·.1)).Nodup := fun ys => by rw [delL_keys]; exact hnd.filter _
  refine xc_range (xs := holdsF r (goneF r l day)) (by omega) rfl iter_enters rfl (needOf w b2 b3 G) (fun w1 hw1 k hk => ?_) (fun w1 hw1 => (iter_holds A c r (goneF r l day) G G b2 b3 w w1 hr (SameB.of_below hw1.kx.below) hw1.kx.size (hw1.obj (by repeat (first | exact List.Mem.head _ | apply List.Mem.tail | apply List.mem_append_right))) (hw1.obj (by repeat (first | exact List.Mem.head _ | apply List.Mem.tail | apply List.mem_append_right))) (hw1.imap (wr := true) (by repeat (first | exact List.Mem.head _ | apply List.Mem.tail | apply List.mem_append_right))) h23) w1 (Nat.le_refl _) (fun k hk => rfl) _ (fun k hk => hk) _)
    (γ := Unit) (fun _ _ => True) (fun ys _ => (b12, true, cel [.map (some M)] 80) :: (M, true, hmap (stM (delL L ys))) :: (stH (storeF m) L ++ [])) () trivial ?_ ?_ ?_ (fun x => [(12, .pointer (some ⟨b12, 0, none⟩)), (15, .int .i64 x)]) ?_ ?_ ?_
  · rcases hk with hk | rfl | rfl | rfl
    · exact Nat.lt_of_lt_of_le hk hw1.kx.size
    · exact hw1.lt (e := (k, true, cel [.slice A r.length c, .map (some G)] 91)) (by repeat (first | exact List.Mem.head _ | apply List.Mem.tail | apply List.mem_append_right))
    · exact hw1.lt (e := (k, true, cel [.map (some G)] 62)) (by repeat (first | exact List.Mem.head _ | apply List.Mem.tail | apply List.mem_append_right))
    · exact hw1.lt (e := (k, true, hmap (setV (goneF r l day)))) (by repeat (first | exact List.Mem.head _ | apply List.Mem.tail | apply List.mem_append_right))
  · exact (by repeat (first | exact List.Sublist.refl _ | apply List.Sublist.cons_cons | apply List.Sublist.cons | exact List.nil_sublist _))
  · intro ys _ _ e he
    right
    rcases List.mem_cons.1 he with rfl | he
    · exact ⟨(b12, true, cel [.map (some M)] 80), (by repeat (first | exact List.Mem.head _ | apply List.Mem.tail | apply List.mem_append_right)), rfl⟩
    rcases List.mem_cons.1 he with rfl | he
    · exact ⟨(M, true, hmap (stM L)), (by repeat (first | exact List.Mem.head _ | apply List.Mem.tail | apply List.mem_append_right)), rfl⟩
    · exact ⟨e, List.Mem.tail _ (List.Mem.tail _ (List.Mem.tail _ (List.Mem.tail _ (List.Mem.tail _ (List.Mem.tail _ he))))), rfl⟩
  · intro ys _ _ e he _
    rcases List.mem_cons.1 he with rfl | he
    · exact hφ (b12, true, cel [.map (some M)] 80) (List.Mem.head _)
    rcases List.mem_cons.1 he with rfl | he
    · exact hφ (M, true, hmap (stM L)) (List.Mem.tail _ (List.Mem.head _))
    · exact hφ e (List.Mem.tail _ (List.Mem.tail _ he))
  · intro lb x W
    with_reducible repeat refine xc_seq ?_
    with_reducible refine xc_region ?_
    refine xo_asg rfl rfl rfl ?_
    with_reducible refine xo_nil ?_
    with_reducible repeat (first | refine xq_then ?_ | refine xq_blockN ?_ | refine xq_scopeN ?_)
    exact fun a w1 ha hw1 => ⟨ha.sub ⟨rfl, rfl, trivial⟩, hw1.kx⟩
  · rintro lb ys x _ W _ hlt hW
    with_reducible repeat refine xc_seq ?_
    with_reducible refine xc_block ?_
    with_reducible repeat refine xc_seq ?_
    with_reducible refine xc_region ?_
    refine xo_load0 T_ rfl rfl rfl (by repeat (first | exact List.Mem.head _ | apply List.Mem.tail | apply List.mem_append_right)) rfl rfl ?_
    refine xo_mv rfl rfl rfl ?_
    refine xo_mdel T_ rfl rfl rfl rfl rfl (by repeat (first | exact List.Mem.head _ | apply List.Mem.tail | apply List.mem_append_right)) (hkeys ys) (by repeat (first | exact Upd.head | apply Upd.tail | apply Upd.app)) rfl ?_
    with_reducible refine xo_nil ?_
    with_reducible repeat (first | refine xq_then ?_ | refine xq_blockN ?_ | refine xq_scopeN ?_)
    intro a w1 ha hw1
    exact ⟨(), trivial, by simp only [delL_app]; exact hw1⟩
  rintro D _ _
  have hkk : heldF r l day = (stM (delL L (holdsF r (goneF r l day)))).map (·.1) := by
    rw [heldF, ← hL, ← delL_keys, stM, List.map_map]
    rfl
  have hsort : sortF (heldF r l day) = heldF r l day := sortF_id ((batches_le hs).sublist List.filter_sublist)
  have hids : (heldF r l day).length ≤ r.length := Nat.le_trans (List.length_filter_le _ _) (by have := (batches_sub r).length_le; simpa using this)
  have hmem : ∀ n ∈ heldF r l day, ∃ b, (n, b) ∈ L ∧ imGet n (stM (delL L (holdsF r (goneF r l day)))) = some (.pointer (some ⟨b, 0, none⟩)) := fun n hn => by
    rcases imGet_stM (L := delL L (holdsF r (goneF r l day))) (id := n) with ⟨b, h1, h2⟩ | ⟨h1, _⟩
    · exact ⟨b, (delL_sub L _).subset h1, h2⟩
    · rw [hkk, stM, List.map_map] at hn
      exact absurd hn h1
  have hacc1 : ∀ k, ((((heldF r l day).take k).filter fun n => decide (0 < outF m n)).length : Int) ≤ k ∧ ((((heldF r l day).take k).filter fun n => decide (0 < outF m n)).length : Int) ≤ (heldF r l day).length := fun k => by
    have h1 := List.length_filter_le (fun n => decide (0 < outF m n)) ((heldF r l day).take k)
    rw [List.length_take] at h1
    omega
  have hsucc : ∀ k, k < (heldF r l day).length → (((heldF r l day).take (k + 1)).filter fun n => decide (0 < outF m n)) = (((heldF r l day).take k).filter fun n => decide (0 < outF m n)) ++ (if 0 < outF m ((heldF r l day).getD k 0) then [(heldF r l day).getD k 0] else []) := fun k hk => by
    have h1 : (heldF r l day).getD k 0 = (heldF r l day)[k] := by simp [List.getD_eq_getElem?_getD, List.getElem?_eq_getElem hk]
    rw [List.take_succ_eq_append_getElem hk, List.filter_append, h1]
    congr 1
    by_cases q : 0 < outF m (heldF r l day)[k]
    · simp [q]
    · simp [q]
  with_reducible repeat (first | refine xq_then ?_ | refine xq_blockN ?_ | refine xq_scopeN ?_)
  with_reducible repeat refine xc_seq ?_
  with_reducible refine xc_region ?_
  refine xo_load0 T_ rfl rfl rfl (by repeat (first | exact List.Mem.head _ | apply List.Mem.tail | apply List.mem_append_right)) rfl rfl ?_
  refine xo_call (fs := []) (cs := []) rfl rfl rfl keysM_enters rfl (fun w1 hw1 => (keysM_calls M w1).mono ?_)
  rintro e w2 ⟨BK, rfl, hB1, hB2, hb⟩
  refine ⟨_, _, rfl, hw1.more (φ := cel [.map (some M)] 80) hb hB1 hB2 rfl, ?_⟩
  clear hB1 hB2 hb hw1
  refine xo_call (fs := []) (cs := []) rfl rfl rfl sorted_enters rfl (fun w1 hw1 => (sorted_calls 73 [.pointer (some ⟨BK, 0, none⟩)] keysIterM_enters (fun k => k = BK ∨ k = M) (heldF r l day) (heldF r l day).length w1 (iter_keysM (heldF r l day) _ hkk M BK w1 (hw1.obj (wr := true) (cs := [.map (some M)]) (by repeat (first | exact List.Mem.head _ | apply List.Mem.tail | apply List.mem_append_right))) (hw1.imap (wr := true) (by repeat (first | exact List.Mem.head _ | apply List.Mem.tail | apply List.mem_append_right)))) (fun k hk => hk.elim (fun e => e ▸ hw1.lt (e := (BK, true, cel [.map (some M)] 80)) (by repeat (first | exact List.Mem.head _ | apply List.Mem.tail | apply List.mem_append_right))) (fun e => e ▸ hw1.lt (e := (M, true, hmap (stM (delL L (holdsF r (goneF r l day)))))) (by repeat (first | exact List.Mem.head _ | apply List.Mem.tail | apply List.mem_append_right)))) (by omega) (by omega)).mono ?_)
  rintro e w2 ⟨r11, rfl, hrw, hb⟩
  rw [hsort] at hrw ⊢
  have h11 := hrw.1
  refine ⟨_, _, rfl, hw1.row hb hrw, ?_⟩
  clear hrw hb hw1
  refine xo_lenR T_ rfl rfl (fun h => by rw [h11 h]; rfl) rfl rfl ?_
  refine xo_mv rfl rfl rfl ?_
  with_reducible refine xo_nil ?_
  with_reducible repeat (first | refine xq_then ?_ | refine xq_blockN ?_ | refine xq_scopeN ?_)
  with_reducible repeat refine xc_seq ?_
  with_reducible refine xc_block ?_
  refine xc_sub (η' := (hpR 3 1 r11 (heldF r l day).length ((heldF r l day).map (.int .i64)) ++ ((D, true, hdef) :: ((b12, true, cel [.map (some M)] 80) :: (M, true, hmap (stM (delL L (holdsF r (goneF r l day))))) :: (stH (storeF m) L ++ []))))) (List.Sublist.append (List.Sublist.refl _) (List.sublist_cons_self _ _)) ?_
  refine xc_loop (γ := Nat × RowR) (fun q => q.1 ≤ (heldF r l day).length ∧ (q.2 = none → (((heldF r l day).take q.1).filter fun n => decide (0 < outF m n)) = [])) (fun q => [(12, .pointer (some ⟨b12, 0, none⟩)), (8, valR q.2 (((heldF r l day).take q.1).filter fun n => decide (0 < outF m n)).length), (9, .int .i64 (((((heldF r l day).take q.1).filter fun n => decide (0 < outF m n)).map (outF m)).sum)), (52, valR r11 (heldF r l day).length), (53, .int .i64 ((heldF r l day).length : Int)), (54, .int .i64 (q.1 : Int))])
    (fun q => hpR 3 1 q.2 (((heldF r l day).take q.1).filter fun n => decide (0 < outF m n)).length ((((heldF r l day).take q.1).filter fun n => decide (0 < outF m n)).map (.int .i64)) ++ (hpR 3 1 r11 (heldF r l day).length ((heldF r l day).map (.int .i64)) ++ ((D, true, hdef) :: ((b12, true, cel [.map (some M)] 80) :: (M, true, hmap (stM (delL L (holdsF r (goneF r l day))))) :: (stH (storeF m) L ++ []))))) (fun q => (heldF r l day).length - q.1) (0, none) ⟨Nat.zero_le _, fun _ => rfl⟩ ⟨rfl, rfl, rfl, rfl, rfl, rfl, trivial⟩ (List.Sublist.refl _) ?_
  rintro ⟨k, rr⟩ ⟨hk1, hrr⟩
  simp only at hk1 hrr ⊢
  with_reducible repeat refine xc_seq ?_
  with_reducible refine xc_region ?_
  refine xo_lss rfl rfl rfl rfl ?_
  with_reducible refine xo_nil ?_
  with_reducible repeat (first | refine xq_then ?_ | refine xq_blockN ?_ | refine xq_scopeN ?_)
  with_reducible repeat refine xc_seq ?_
  refine xc_cond rfl (fun h => ?_) (fun h => ?_)
  · have hlt : k < (heldF r l day).length := by have := of_decide_eq_true h; omega
    have hsk := hsucc k hlt
    have hin := getD_mem (heldF r l day) 0 k hlt
    obtain ⟨b, hb1, hb2⟩ := hmem _ hin
    have hBs := count_B hcf ((heldF r l day).getD k 0)
    have hsum := recSum_B hcf (((heldF r l day).take k).filter fun n => decide (0 < outF m n))
    have hac := hacc1 k
    have hxk : ((heldF r l day).map (Value.int .i64))[k]? = some (.int .i64 ((heldF r l day).getD k 0)) := by simp [List.getD_eq_getElem?_getD, List.getElem?_eq_getElem hlt]
    unfold StB at hBs
    with_reducible refine xc_skip ?_
    with_reducible repeat (first | refine xq_then ?_ | refine xq_blockN ?_ | refine xq_scopeN ?_)
    with_reducible repeat refine xc_seq ?_
    with_reducible refine xc_block ?_
    rcases r11 with _ | ⟨g11, cap11⟩
    · rw [h11 rfl] at hlt
      exact absurd hlt (by simp)
    with_reducible repeat refine xc_seq ?_
    with_reducible refine xc_region ?_
    refine xo_ia T_ rfl rfl rfl rfl rfl ⟨by omega, by omega⟩ rfl ?_
    refine xo_loadO (v := .int .i64 ((heldF r l day).getD k 0)) T_ rfl rfl rfl (by repeat (first | exact List.Mem.head _ | exact List.mem_append_left _ (List.Mem.head _) | apply List.mem_append_right | apply List.Mem.tail)) (by simp only [szN, Int.toNat_natCast]; simpa using hxk) rfl ?_
    refine xo_asg rfl rfl rfl ?_
    with_reducible refine xo_nil ?_
    with_reducible repeat (first | refine xq_then ?_ | refine xq_blockN ?_ | refine xq_scopeN ?_)
    with_reducible repeat refine xc_seq ?_
    apply xc_drawN
    · exact T_.mixed
    · rfl
    · rfl
    · rfl
    · rfl
    · apply DrawOps.cons
      · intro τ
        refine xo_load0 T_ rfl rfl rfl (t := 80) (by repeat (first | exact List.Mem.head _ | exact List.mem_append_left _ (List.Mem.head _) | apply List.mem_append_right | apply List.Mem.tail)) rfl rfl ?_
        exact xo_fin rfl
      apply DrawOps.cons
      · intro τ
        refine xo_mv rfl rfl rfl ?_
        exact xo_fin rfl
      apply DrawOps.cons
      · intro τ
        refine xo_look1 T_ rfl rfl rfl rfl rfl rfl (by repeat (first | exact List.Mem.head _ | exact List.mem_append_left _ (List.Mem.head _) | apply List.mem_append_right | apply List.Mem.tail)) (by rw [hb2]) rfl ?_
        exact xo_fin rfl
      apply DrawOps.cons
      · intro τ
        refine xo_nilck rfl rfl rfl ?_
        exact xo_fin rfl
      apply DrawOps.cons
      · intro τ
        refine xo_fa T_ rfl rfl rfl rfl rfl ?_
        exact xo_fin rfl
      apply DrawOps.cons
      · intro τ
        refine xo_load0 T_ rfl rfl rfl (List.mem_append_right _ (List.mem_append_right _ (List.Mem.tail _ (List.Mem.tail _ (List.Mem.tail _ (List.mem_append_left _ (stH_mem hb1))))))) rfl rfl ?_
        exact xo_fin rfl
      apply DrawOps.cons
      · intro τ
        refine xo_load0 T_ rfl rfl rfl (by repeat (first | exact List.Mem.head _ | exact List.mem_append_left _ (List.Mem.head _) | apply List.mem_append_right | apply List.Mem.tail)) rfl rfl ?_
        exact xo_fin rfl
      apply DrawOps.cons
      · intro τ
        refine xo_mv rfl rfl rfl ?_
        exact xo_fin rfl
      apply DrawOps.cons
      · intro τ
        refine xo_look1 T_ rfl rfl rfl rfl rfl rfl (by repeat (first | exact List.Mem.head _ | exact List.mem_append_left _ (List.Mem.head _) | apply List.mem_append_right | apply List.Mem.tail)) (by rw [hb2]) rfl ?_
        exact xo_fin rfl
      apply DrawOps.cons
      · intro τ
        refine xo_nilck rfl rfl rfl ?_
        exact xo_fin rfl
      apply DrawOps.cons
      · intro τ
        refine xo_fa T_ rfl rfl rfl rfl rfl ?_
        exact xo_fin rfl
      apply DrawOps.cons
      · intro τ
        refine xo_load0 T_ rfl rfl rfl (List.mem_append_right _ (List.mem_append_right _ (List.Mem.tail _ (List.Mem.tail _ (List.Mem.tail _ (List.mem_append_left _ (stH_mem hb1))))))) rfl rfl ?_
        exact xo_fin rfl
      apply DrawOps.cons
      · intro τ
        refine xo_sub rfl rfl rfl (by omega) rfl ?_
        exact xo_fin rfl
      apply DrawOps.cons
      · intro τ
        refine xo_asg rfl rfl rfl ?_
        exact xo_fin rfl
      exact DrawOps.nil
    · rfl
    with_reducible repeat (first | refine xq_then ?_ | refine xq_blockN ?_ | refine xq_scopeN ?_)
    with_reducible repeat refine xc_seq ?_
    with_reducible refine xc_region ?_
    refine xo_mv rfl rfl rfl ?_
    refine xo_gtr rfl rfl rfl rfl ?_
    with_reducible refine xo_nil ?_
    with_reducible repeat (first | refine xq_then ?_ | refine xq_blockN ?_ | refine xq_scopeN ?_)
    with_reducible repeat refine xc_seq ?_
    refine xc_cond rfl (fun h0 => ?_) (fun h0 => ?_)
    · have h0 : 0 < outF m ((heldF r l day).getD k 0) := of_decide_eq_true h0
      rw [if_pos h0] at hsk
      have hs9 := congrArg (fun l => (l.map (outF m)).sum) hsk
      simp only [List.map_append, List.sum_append, List.map_cons, List.map_nil, List.sum_cons, List.sum_nil, Int.add_zero] at hs9
      have hs8 := congrArg List.length hsk
      simp only [List.length_append, List.length_cons, List.length_nil, Nat.zero_add] at hs8
      have hs7 := congrArg (fun l => l.map (Value.int .i64)) hsk
      simp only [List.map_append, List.map_cons, List.map_nil] at hs7
      with_reducible repeat refine xc_seq ?_
      with_reducible refine xc_region ?_
      refine xo_mv rfl rfl rfl ?_
      refine xo_mv rfl rfl rfl ?_
      refine xo_bs1 T_ rfl rfl rfl rfl rfl rfl rfl rfl (fun b75 => ?_)
      refine xo_app TR_ rfl rfl rfl rfl rfl rfl rfl rfl (by simp) rfl rfl (fun h => by rw [hrr h]; rfl) (by omega) rfl rfl (fun r' hr' => ?_)
      refine xo_asg rfl rfl rfl ?_
      with_reducible refine xo_nil ?_
      with_reducible repeat (first | refine xq_then ?_ | refine xq_blockN ?_ | refine xq_scopeN ?_)
      with_reducible repeat refine xc_seq ?_
      with_reducible refine xc_region ?_
      refine xo_mv rfl rfl rfl ?_
      refine xo_mv rfl rfl rfl ?_
      refine xo_add rfl rfl rfl (by omega) rfl ?_
      refine xo_asg rfl rfl rfl ?_
      with_reducible refine xo_nil ?_
      with_reducible repeat (first | refine xq_then ?_ | refine xq_blockN ?_ | refine xq_scopeN ?_)
      with_reducible repeat refine xc_seq ?_
      with_reducible refine xc_region ?_
      refine xo_add rfl rfl rfl (by omega) rfl ?_
      refine xo_mv rfl rfl rfl ?_
      with_reducible refine xo_nil ?_
      with_reducible repeat (first | refine xq_then ?_ | refine xq_blockN ?_ | refine xq_scopeN ?_)
      refine xq_again _ _ _ _ _ (k + 1, r') ⟨hlt, fun h => absurd h hr'⟩ (by first | omega | (simp only; omega)) ⟨rfl, by simp only [hs8]; rfl, by simp only [hs9]; rfl, rfl, rfl, rfl, trivial⟩ ?_
      simp only [hs8, hs7]
      exact List.Sublist.refl _
    · have h0 : ¬ 0 < outF m ((heldF r l day).getD k 0) := of_decide_eq_false h0
      rw [if_neg h0, List.append_nil] at hsk
      with_reducible refine xc_skip ?_
      with_reducible repeat (first | refine xq_then ?_ | refine xq_blockN ?_ | refine xq_scopeN ?_)
      with_reducible repeat refine xc_seq ?_
      with_reducible refine xc_region ?_
      refine xo_add rfl rfl rfl (by omega) rfl ?_
      refine xo_mv rfl rfl rfl ?_
      with_reducible refine xo_nil ?_
      with_reducible repeat (first | refine xq_then ?_ | refine xq_blockN ?_ | refine xq_scopeN ?_)
      refine xq_again _ _ _ _ _ (k + 1, rr) ⟨hlt, by rw [hsk]; exact hrr⟩ (by first | omega | (simp only; omega)) ⟨rfl, by simp only [hsk]; rfl, by simp only [hsk]; rfl, rfl, rfl, rfl, trivial⟩ ?_
      simp only [hsk]
      exact List.Sublist.refl _
  · have hge : ¬ k < (heldF r l day).length := by have := of_decide_eq_false h; omega
    have hall : (((heldF r l day).take k).filter fun n => decide (0 < outF m n)) = recallR r l m day := by rw [e2, List.take_of_length_le (by omega)]
    simp only [hall] at hrr ⊢
    with_reducible refine xc_exit ?_
    with_reducible repeat (first | refine xq_blockX ?_ | refine xq_thenE ?_ | refine xq_blockE rfl ?_ | refine xq_scopeE ?_)
    with_reducible repeat (first | refine xq_then ?_ | refine xq_blockN ?_ | refine xq_scopeN ?_)
    with_reducible repeat refine xc_seq ?_
    with_reducible refine xc_region ?_
    refine xo_mv rfl rfl rfl ?_
    refine xo_mv rfl rfl rfl ?_
    refine xo_asg rfl rfl rfl ?_
    refine xo_asg rfl rfl rfl ?_
    refine xo_asg rfl rfl rfl ?_
    with_reducible refine xo_nil ?_
    with_reducible repeat (first | refine xq_then ?_ | refine xq_blockN ?_ | refine xq_scopeN ?_)
    with_reducible repeat refine xc_seq ?_
    with_reducible refine xc_ret ?_
    with_reducible repeat (first | refine xq_thenR ?_ | refine xq_blockR ?_ | refine xq_scopeR ?_)
    refine xq_perm (η' := (D, true, hdef) :: (hpR 3 1 rr (recallR r l m day).length ((recallR r l m day).map (.int .i64)) ++ (hpR 3 1 r11 (heldF r l day).length ((heldF r l day).map (.int .i64)) ++ ((b12, true, cel [.map (some M)] 80) :: (M, true, hmap (stM (delL L (holdsF r (goneF r l day))))) :: (stH (storeF m) L ++ []))))) (by rw [← List.append_assoc, ← List.append_assoc]; exact List.perm_middle) ?_
    exact xq_retM3 rfl rfl rfl rfl fun w' hw => ⟨rr, by rw [e0, ho]; rfl, RowAt.of hw hrr, hw.kx.below⟩
theorem recall_enters : ∀ args w, (callFunc 15 args).run Tryd.prog w = .ok (.enter 15 args) w := enters_of Tryd.func15 (by kernel_rfl) rfl
end Go.Proofs.YtcmepdamemnbkaaDoor
