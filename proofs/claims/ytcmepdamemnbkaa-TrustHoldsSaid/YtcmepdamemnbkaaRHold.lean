/- ref08.Hold: plain part. -/
import Derived.Test.YtcmepdamemnbkaaRGone
namespace Go.Proofs.Ytcmepdamemnbkaa
open Go.RowKit Go.Proofs.YtcmepdamemnbkaaW.PrintWords
set_option linter.unusedVariables false
set_option linter.unusedSimpArgs false
theorem recorded_len {r : List RecT} (h : recordedF r = true) : r.length ≤ 12 := by
  simp only [recordedF, Bool.and_eq_true, decide_eq_true_eq] at h
  exact h.2
theorem sorted_of {r : List RecT} (h : recordedF r = true) : SortedIds r := by
  simp only [recordedF, Bool.and_eq_true] at h
  exact (recF_sorted r _ _ h.1).2
theorem sorted_inj {r : List RecT} (h : SortedIds r) {i j : Nat} (hi : i < r.length) (hj : j < r.length) (e : idAt r i = idAt r j) : i = j := by
  by_cases h1 : i < j
  · have := sorted_lt h j i h1 hj; omega
  · by_cases h2 : j < i
    · have := sorted_lt h i j h2 hi; omega
    · omega
theorem idAt_mem (r : List RecT) {i : Nat} (h : i < r.length) : r.getD i zRec ∈ r := getD_mem r zRec i h
theorem mem_idAt {r : List RecT} {x : RecT} (h : x ∈ r) : ∃ i, i < r.length ∧ r.getD i zRec = x := by
  obtain ⟨i, hi, rfl⟩ := List.getElem_of_mem h
  exact ⟨i, hi, by simp [List.getD_eq_getElem?_getD, List.getElem?_eq_getElem hi]⟩
theorem wayF_mem {bs : List Int} : ∀ (w : List Int) (p : Int), wayF bs p w = true → ∀ n ∈ w, n ∈ bs
  | [], _, _, n, h => by cases h
  | m :: w, p, h, n, hn => by
    simp only [wayF, Bool.and_eq_true, Bool.not_eq_true', Bool.or_eq_false_iff, Bool.not_eq_false', decide_eq_true_eq] at h
    rcases List.mem_cons.1 hn with rfl | hn
    · exact h.1.2
    · exact wayF_mem w m h.2 n hn
theorem recF_known : ∀ (r : List RecT) (bs : List Int) (last : Int), recF bs last r = true → ∀ x ∈ r, ∀ way ∈ x.f2, ∀ n ∈ way, n ∈ bs ∨ knownF r n = true
  | [], _, _, _, x, h, _, _, _, _ => by cases h
  | y :: r, bs, last, h, x, hx, way, hw, n, hn => by
    simp only [recF, Bool.and_eq_true] at h
    obtain ⟨_, h1, h2⟩ := h
    rcases List.mem_cons.1 hx with rfl | hx
    · rw [waysF, List.all_eq_true] at h1
      have := h1 way hw
      simp only [Bool.and_eq_true] at this
      exact .inl (wayF_mem way _ this.1 n hn)
    · rcases recF_known r _ _ h2 x hx way hw n hn with h3 | h3
      · rcases mem_insN.1 h3 with rfl | h3
        · right; simp [knownF]
        · exact .inl h3
      · right
        simp only [knownF, List.any_cons, Bool.or_eq_true] at h3 ⊢
        exact .inr h3
theorem recorded_known {r : List RecT} (h : recordedF r = true) {x : RecT} (hx : x ∈ r) {way : List Int} (hw : way ∈ x.f2) {n : Int} (hn : n ∈ way) : knownF r n = true := by
  simp only [recordedF, Bool.and_eq_true] at h
  rcases recF_known r _ _ h.1 x hx way hw n hn with h1 | h1
  · cases h1
  · exact h1
theorem idxF_at {α : Type} (p : α → Bool) (z : α) : ∀ (zs : List α) (i : Nat), zs.any p = true → ∃ a, a < zs.length ∧ idxF p zs i = ((i + a : Nat) : Int) ∧ p (zs.getD a z) = true
  | [], _, h => by cases h
  | x :: r, i, h => by
    by_cases hx : p x = true
    · exact ⟨0, by simp, by simp [idxF, hx], by simpa using hx⟩
    · have hx' : p x = false := by simpa using hx
      rw [List.any_cons, hx', Bool.false_or] at h
      obtain ⟨a, h1, h2, h3⟩ := idxF_at p z r (i + 1) h
      exact ⟨a + 1, by simpa using h1, by rw [idxF, hx', if_neg (by simp), h2]; omega, by simpa using h3⟩
theorem atF_known {r : List RecT} {n : Int} (h : knownF r n = true) : ∃ a, a < r.length ∧ atF r n = (a : Int) ∧ idAt r a = n := by
  obtain ⟨a, h1, h2, h3⟩ := idxF_at (fun x : RecT => decide (x.f0 = n)) zRec r 0 h
  exact ⟨a, h1, by rw [atF, h2]; simp, of_decide_eq_true h3⟩
theorem holdsL_mem {G : List Int} : ∀ (r : List RecT) (bs : List Int) (n : Int), n ∈ holdsL G bs r → ∃ i, i < r.length ∧ idAt r i = n
  | [], _, n, h => by cases h
  | x :: r, bs, n, h => by
    unfold holdsL at h
    split at h
    · obtain ⟨i, h1, h2⟩ := holdsL_mem r _ n h
      exact ⟨i + 1, by simpa using h1, by simpa [idAt] using h2⟩
    · rcases List.mem_cons.1 h with rfl | h
      · exact ⟨0, by simp, rfl⟩
      · obtain ⟨i, h1, h2⟩ := holdsL_mem r _ n h
        exact ⟨i + 1, by simpa using h1, by simpa [idAt] using h2⟩
theorem idAt_drop (r : List RecT) (k i : Nat) : idAt (r.drop k) i = idAt r (k + i) := by simp [idAt, List.getD_eq_getElem?_getD, List.getElem?_drop]
theorem hold_state (r : List RecT) (G : List Int) : ∀ k, k ≤ r.length → ∃ bs pre, holdsF r G = pre ++ holdsL G bs (r.drop k) ∧ (∀ n, n ∈ bs ↔ n ∈ pre) ∧ ∀ n ∈ pre, ∃ i, i < k ∧ idAt r i = n
  | 0, _ => ⟨[], [], rfl, fun n => Iff.rfl, fun n h => by cases h⟩
  | k + 1, hk => by
    obtain ⟨bs, pre, h1, h2, h3⟩ := hold_state r G k (by omega)
    rw [drop_at r zRec k (by omega), holdsL] at h1
    split at h1
    · exact ⟨bs, pre, h1, h2, fun n hn => by obtain ⟨i, hi, e⟩ := h3 n hn; exact ⟨i, by omega, e⟩⟩
    · refine ⟨insN (r.getD k zRec).f0 bs, pre ++ [(r.getD k zRec).f0], by rw [h1, List.append_assoc]; rfl, fun n => ?_, fun n hn => ?_⟩
      · rw [mem_insN, h2, List.mem_append, List.mem_singleton]
        exact or_comm
      · rcases List.mem_append.1 hn with hn | hn
        · obtain ⟨i, hi, e⟩ := h3 n hn; exact ⟨i, by omega, e⟩
        · rw [List.mem_singleton] at hn; exact ⟨k, by omega, hn.symm⟩
/-- what the reference's row of truths says of the k-th record -/
theorem hold_at {r : List RecT} (hs : SortedIds r) (G : List Int) (k : Nat) (hk : k < r.length) :
    ∃ bs, decide (idAt r k ∈ holdsF r G) = (standsF bs (r.getD k zRec).f2 && !decide (idAt r k ∈ G)) ∧ ∀ n, n ∈ bs ↔ n ∈ holdsF r G ∧ ∃ i, i < k ∧ idAt r i = n := by
  obtain ⟨bs, pre, h1, h2, h3⟩ := hold_state r G k (by omega)
  have hlater : ∀ bs n, n ∈ holdsL G bs (r.drop (k + 1)) → ∃ i, k < i ∧ i < r.length ∧ idAt r i = n := fun bs n hn => by
    obtain ⟨i, hi, e⟩ := holdsL_mem _ _ _ hn
    rw [idAt_drop] at e
    rw [List.length_drop] at hi
    exact ⟨k + 1 + i, by omega, by omega, e⟩
  have hnot : ∀ bs, idAt r k ∉ holdsL G bs (r.drop (k + 1)) := fun bs hn => by
    obtain ⟨i, h4, h5, e⟩ := hlater bs _ hn
    have := sorted_inj hs h5 hk e
    omega
  have hpre : idAt r k ∉ pre := fun hn => by
    obtain ⟨i, hi, e⟩ := h3 _ hn
    have := sorted_inj hs (by omega) hk e
    omega
  have hall : ∀ n, n ∈ holdsL G bs (r.drop k) → ∃ i, k ≤ i ∧ i < r.length ∧ idAt r i = n := fun n hn => by
    obtain ⟨i, hi, e⟩ := holdsL_mem _ _ _ hn
    rw [idAt_drop] at e
    rw [List.length_drop] at hi
    exact ⟨k + i, by omega, by omega, e⟩
  refine ⟨bs, ?_, fun n => ?_⟩
  · have h4 : idAt r k ∈ holdsF r G ↔ idAt r k ∈ holdsL G bs (r.drop k) := by
      rw [h1, List.mem_append]
      exact ⟨fun h => h.resolve_left hpre, .inr⟩
    have hid : (r.getD k zRec).f0 = idAt r k := rfl
    rw [drop_at r zRec k hk, holdsL, hid] at h4
    rw [Bool.eq_iff_iff, decide_eq_true_eq, h4]
    by_cases h5 : idAt r k ∈ G <;> cases h6 : standsF bs (r.getD k zRec).f2 <;> simp [h5, hnot]
  · rw [h2, h1, List.mem_append]
    constructor
    · intro hn
      exact ⟨.inl hn, h3 n hn⟩
    · rintro ⟨hn | hn, i, hi, e⟩
      · exact hn
      · obtain ⟨j, h4, h5, e2⟩ := hall n hn
        have := sorted_inj hs (by omega : i < r.length) h5 (e.trans e2.symm)
        omega
theorem fill_load {f : Nat → Bool} {n k a : Nat} (h : a < n) : ((fillB f n k).map Value.bool)[0 + (a : Int).toNat * szN 0]? = some (.bool (decide (a < k) && f a)) := by
  rw [show 0 + (a : Int).toNat * szN 0 = a by simp [szN], List.getElem?_map, fillB_get _ _ _ _ h]
  rfl
end Go.Proofs.Ytcmepdamemnbkaa
